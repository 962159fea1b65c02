/- The machine's check of a state. -/
import Derived.Deep.LoopGhost
import Derived.Deep.RegionHeld3
import Derived.Lib.Strings
import Derived.Lib.Slices
import Derived.Lib.Small
import Derived.Lib.Walk
import Derived.Lib.BitFns
import Derived.SliceStrings
import Derived.Test.YtgbbhlginbmghaaGreatDoorMCa1
import Derived.Test.YtgbbhlginbmghaaGreatDoorMCa2
import Derived.Test.YtgbbhlginbmghaaGreatDoorMCa3
import Derived.Test.YtgbbhlginbmghaaGreatDoorMCa4
import Derived.Test.YtgbbhlginbmghaaGreatDoorMCa5
import Derived.Test.YtgbbhlginbmghaaGreatDoorMCa6
import Derived.Test.YtgbbhlginbmghaaGreatDoorMCa7
set_option maxHeartbeats 8000000
set_option maxRecDepth 100000
namespace Go.Proofs.YtgbbhlginbmghaaGreatDoor
open Go.RowKit Go.Slip
def sV (xs : List ByteArray) : List Value := xs.map Value.string
theorem d0k (xs : List ByteArray) : (sV xs).length = xs.length := List.length_map ..
theorem k0n {xs : List ByteArray} {i : Nat} {s : ByteArray} (h : xs[i]? = some s) : (sV xs)[i]? = some (.string s) := by unfold sV; rw [List.getElem?_map, h]; rfl
theorem i1e (xs : List ByteArray) : (sV xs).all (·.oneCell') = true := by unfold sV; simp [Value.oneCell']
theorem c1p (xs : List ByteArray) (s : ByteArray) : sV xs ++ [.string s] = sV (xs ++ [s]) := by unfold sV; rw [List.map_append]; rfl
theorem x0o (s : ByteArray) (sz : Int) (cb : Nat) (w : World) (hb : Bt w cb 3 #[.int .i64 sz]) : Calls Tryz.prog 33 #[.string s, .pointer (some ⟨cb, 0, none⟩)] w fun en w' => en = .returned (.bool ((s.size : Int) != sz)) ∧ Below w.heap.size w w' := by
 have I := Inv.startR w [cb] [⟨3, [.v (.int .i64 sz)], true⟩] [] ⟨hb, True.intro⟩ True.intro
 refine a0c [.v (.string s), .p 0 0] I Tryz.func33 ?_
 exact zrb I
theorem x0p (xs : List ByteArray) (p : OA) (c : Nat) (sz : Int) (cb : Nat) (w : World) (hr : RdV w p (sV xs)) (hcb : Bt w cb 3 #[.int .i64 sz]) (hl : xs.length ≤ 9223372036854775807) : Calls Tryz.prog 70 #[.slice p xs.length c, .func (.func 33) #[] #[.pointer (some ⟨cb, 0, none⟩)]] w
 fun en w' => ∃ r : Int, en = .returned (.int .i64 r) ∧ (0 ≤ r ↔ ∃ s, s ∈ xs ∧ (s.size : Int) ≠ sz) ∧ Below w.heap.size w w' := by
 have HC := fun s W h => lHd (x0o s sz cb W h)
 have HX : ∀ i, i < xs.length → ∃ s, xs[i]? = some s ∧ s ∈ xs ∧ xs.take (i + 1) = xs.take i ++ [s] := fun i h => ⟨xs[i], List.getElem?_eq_getElem h, List.getElem_mem h, by rw [List.take_add_one, List.getElem?_eq_getElem h]; rfl⟩
 have hsol : g0f p xs.length := by have := hr.solid; rw [d0k] at this; exact this
 have I := Inv.start w [rdvF p (sV xs), btF cb 3 #[.int .i64 sz]] ⟨hr, hcb, True.intro⟩
 refine a0c [.v (.slice p xs.length c), .v (.func (.func 33) #[] #[.pointer (some ⟨cb, 0, none⟩)])] I Tryz.func70 ?_
 refine i0q I (fun gk fr bx gs => ∃ (U900 : Nat → Value) (i : Nat), fr = (.v (.slice p xs.length c) :: .v (.func (.func 33) #[] #[.pointer (some ⟨cb, 0, none⟩)]) :: su 2 (sw U900 4 3 (.v (.int .i64 (xs.length : Int)) :: .v (.int .i64 (i : Int)) :: sw U900 9 10 [])) : List SV) ∧ bx = [] ∧ gs = [rdvF p (sV xs), btF cb 3 #[.int .i64 sz]] ∧ (gk + i = xs.length) ∧ (∀ s, s ∈ xs.take i → (s.size : Int) = sz)) xs.length (fun Al W U I => ⟨_, ⟨U, 0, rfl, rfl, rfl, (by omega), (fun s h => by cases h)⟩, I.pick [0, 1]⟩) ?_
 rintro J0 gk0 _ _ _ ⟨U900, i, rfl, rfl, rfl, hgk, hall⟩ hJ0 Al W I
 rcases bTF (decide ((i : Int) < (xs.length : Int))) with f9 | f9
 · refine zb I 9 (decide ((i : Int) < (xs.length : Int))) (true) (f9) fun Al W I => ?_
   obtain ⟨s, hs, hsm, hst⟩ := HX i (by have := oTr f9; omega)
   by_cases hz : (s.size : Int) = sz
   · refine zx I 14 (fun _ => .pointer (some (at_ p i))) (fun Al W I => (d0z (m := i) (n := xs.length) (c := c) j0j hsol (by have := oTr f9; omega))) fun Al W I => zx I 15 (fun _ => .string s) (fun Al W I => (b0a (m := i) I.fa.1 c0b (k0n hs))) fun Al W I => zqd I (fun Al W I => (HC s W I.fa.2.1).out) (show ((s.size : Int) != sz) = false from bne_eq_false_iff_eq.2 hz) fun Al W I => zi I 18 .i64 ((i : Int) + 1) (((i + 1 : Nat) : Int)) ((by rw [show ((i : Int) + 1) = ((i + 1 : Nat) : Int) by omega]; exact IntWalk.i64_in _ (by have := oTr f9; omega))) fun Al W I => a0j I J0 fun Al W U I => hJ0 (gk0 - 1) _ _ _ _ _ ((by have := oTr f9; omega)) ⟨U, i + 1, rfl, rfl, rfl, (by have := oTr f9; omega), (fun s' h => by rw [hst, List.mem_append, List.mem_singleton] at h; rcases h with h | rfl; exact hall s' h; exact hz)⟩ (I.pick [0, 1])
   refine zx I 14 (fun _ => .pointer (some (at_ p i))) (fun Al W I => (d0z (m := i) (n := xs.length) (c := c) j0j hsol (by have := oTr f9; omega))) fun Al W I => zx I 15 (fun _ => .string s) (fun Al W I => (b0a (m := i) I.fa.1 c0b (k0n hs))) fun Al W I => zqd I (fun Al W I => (HC s W I.fa.2.1).out) (show ((s.size : Int) != sz) = true from bne_iff_ne.2 hz) fun Al W I => zret I fun Al W I => ⟨(i : Int), rfl, ⟨fun _ => ⟨s, hsm, hz⟩, fun _ => by omega⟩, I.below⟩
 refine zb I 9 (decide ((i : Int) < (xs.length : Int))) (false) (f9) fun Al W I => zret I (v := fun Al => vI (-1)) fun Al W I => ⟨-1, rfl, ⟨fun h => by omega, fun ⟨s, h, k⟩ => absurd (hall s (by rw [List.take_of_length_le (by have := oFa f9; omega)]; exact h)) k⟩, I.below⟩
theorem p0x (xs : List ByteArray) (p : OA) (c : Nat) (sz : Int) (cb : Nat) (w : World) (hr : RdV w p (sV xs)) (hcb : Bt w cb 3 #[.int .i64 sz]) (hl : xs.length ≤ 9223372036854775807) : Calls Tryz.prog 32 #[.slice p xs.length c, .func (.func 33) #[] #[.pointer (some ⟨cb, 0, none⟩)]] w
 fun en w' => en = .returned (.bool (xs.any fun s => (s.size : Int) != sz)) ∧ Below w.heap.size w w' := by
 have HC := fun W h h2 => lHd (x0p xs p c sz cb W h h2 hl)
 have I := Inv.start w [rdvF p (sV xs), btF cb 3 #[.int .i64 sz]] ⟨hr, hcb, True.intro⟩
 refine a0c [.v (.slice p xs.length c), .v (.func (.func 33) #[] #[.pointer (some ⟨cb, 0, none⟩)])] I Tryz.func32 ?_
 refine zg I (fun Al W I => (HC W I.fa.1 I.fa.2.1).out) fun Al V Iv _ hB _ kz => ?_
 rintro _ W ⟨r, rfl, hi, hb⟩
 refine ⟨_, rfl, kz _ _ hb fun I => ?_⟩
 exact zret I (v := fun Al => .bool (decide (r ≥ 0))) fun Al W I => ⟨congrArg (fun b => Ending.returned (.bool b)) (by rw [Bool.eq_iff_iff]; simp only [decide_eq_true_eq, List.any_eq_true, bne_iff_ne, ge_iff_le]; exact hi), I.below⟩
def chkS (f a g r : Int) (xs : List ByteArray) : Int :=
 if ¬ IsFm f then 6 else if ¬ (1 ≤ a ∧ a ≤ 5) then 6 else if ¬ (0 ≤ g ∧ g ≤ 31 ∧ 0 ≤ r ∧ r ≤ 31) then 3 else if 16 < xs.length then 2 else if xs.any (fun s => (s.size : Int) != (((fmt f).size : Nat) : Int)) then 1 else 0
theorem x0q (f a g r : Int) (xs : List ByteArray) (p : OA) (c : Nat) (w : World) (hr : RdV w p (sV xs)) (hl : xs.length ≤ 9223372036854775807) : Calls Tryz.prog 14 #[stV f a g r p xs.length c] w
 fun en w' => en = .returned (.int .i64 (chkS f a g r xs)) ∧ Below w.heap.size w w' := by
 have HS := fun W => lHd (u0v f W)
 have HC := fun p c cb W h h2 => lHd (p0x xs p c (((fmt f).size : Nat) : Int) cb W h h2 hl)
 have he : c0w f = if IsFm f then 0 else 6 := rfl
 unfold chkS
 generalize (((fmt f).size : Nat) : Int) = sz at *
 generalize c0w f = er at *
 generalize hb : (xs.any fun s => (s.size : Int) != sz) = b at *
 have HW := fun W => lHd (x0j a W)
 have HG := fun x W => lHd (m0p x 0 31 W)
 have I := Inv.start w [rdvF p (sV xs)] ⟨hr, True.intro⟩
 refine a0c [.v (.agg #[.int .i64 f, .int .i64 a, .int .i64 g, .int .i64 r, .slice p xs.length c])] I Tryz.func14 ?_
 refine zq I (fun Al W I => (HS W).out) fun Al W I => ?_
 rcases bTF (er != 0) with h13 | h13
 · refine zb I 13 (er != 0) (true) (h13) fun Al W I => zret I (v := fun Al => vI er) fun Al W I => ⟨congrArg (fun x => Ending.returned (vI x)) ?_, I.below⟩
   (have h := bne_iff_ne.1 h13; split at he; omega; rw [if_pos (by assumption), he])
 refine zb I 13 (er != 0) (false) (h13) fun Al W I => ?_
 by_cases hw : 1 ≤ a ∧ a ≤ 5
 · refine zqd I (fun Al W I => (HW W).out) (show (decide (1 ≤ a) && decide (a ≤ 5)) = true from (by rw [decide_eq_true hw.1, decide_eq_true hw.2]; rfl)) fun Al W I => ?_
   by_cases hg : 0 ≤ g ∧ g ≤ 31
   · by_cases hg2 : 0 ≤ r ∧ r ≤ 31
     · refine zqd I (fun Al W I => (HG g W).out) (show (decide (0 ≤ g) && decide (g ≤ 31)) = true from (by rw [decide_eq_true hg.1, decide_eq_true hg.2]; rfl)) fun Al W I => zqd I (fun Al W I => (HG r W).out) (show (decide (0 ≤ r) && decide (r ≤ 31)) = true from (by rw [decide_eq_true hg2.1, decide_eq_true hg2.2]; rfl)) fun Al W I => ?_
       rcases bTF (decide ((xs.length : Int) > 16)) with h35 | h35
       · refine zb I 35 (decide ((xs.length : Int) > 16)) (true) (h35) fun Al W I => zret I (v := fun Al => vI 2) fun Al W I => ⟨congrArg (fun x => Ending.returned (vI x)) ?_, I.below⟩
         (have h := bne_eq_false_iff_eq.1 h13; split at he; rotate_left; omega; rename_i hf; rw [if_neg (Classical.not_not.2 hf)]; first | (rw [if_pos hw]) | (rw [if_neg (Classical.not_not.2 hw)]; first | (rw [if_pos (fun h => hg ⟨h.1, h.2.1⟩)]) | (rw [if_pos (fun h => hg2 ⟨h.2.2.1, h.2.2.2⟩)]) | (rw [if_neg (Classical.not_not.2 ⟨hg.1, hg.2, hg2.1, hg2.2⟩)]; (rw [if_pos (by have := oTr h35; omega)]))))
       refine zb I 35 (decide ((xs.length : Int) > 16)) (false) (h35) fun Al W I => ?_
       by_cases hany : b = true
       · refine zqd I (fun Al W I => (HC p c (lk 0 Al 1) W I.fa.1 (I.box 1 3 _)).out) (show (b) = true from hany) fun Al W I => zret I (v := fun Al => vI 1) fun Al W I => ⟨congrArg (fun x => Ending.returned (vI x)) ?_, I.below⟩
         (have h := bne_eq_false_iff_eq.1 h13; split at he; rotate_left; omega; rename_i hf; rw [if_neg (Classical.not_not.2 hf)]; first | (rw [if_pos hw]) | (rw [if_neg (Classical.not_not.2 hw)]; first | (rw [if_pos (fun h => hg ⟨h.1, h.2.1⟩)]) | (rw [if_pos (fun h => hg2 ⟨h.2.2.1, h.2.2.2⟩)]) | (rw [if_neg (Classical.not_not.2 ⟨hg.1, hg.2, hg2.1, hg2.2⟩)]; (rw [if_neg (by have := oFa h35; omega)]; first | (rw [if_pos hany]) | (rw [if_neg hany])))))
       refine zqd I (fun Al W I => (HC p c (lk 0 Al 1) W I.fa.1 (I.box 1 3 _)).out) (show (b) = false from (by cases b with | true => exact absurd rfl hany | false => rfl)) fun Al W I => zret I (v := fun Al => vI 0) fun Al W I => ⟨congrArg (fun x => Ending.returned (vI x)) ?_, I.below⟩
       (have h := bne_eq_false_iff_eq.1 h13; split at he; rotate_left; omega; rename_i hf; rw [if_neg (Classical.not_not.2 hf)]; first | (rw [if_pos hw]) | (rw [if_neg (Classical.not_not.2 hw)]; first | (rw [if_pos (fun h => hg ⟨h.1, h.2.1⟩)]) | (rw [if_pos (fun h => hg2 ⟨h.2.2.1, h.2.2.2⟩)]) | (rw [if_neg (Classical.not_not.2 ⟨hg.1, hg.2, hg2.1, hg2.2⟩)]; (rw [if_neg (by have := oFa h35; omega)]; first | (rw [if_pos hany]) | (rw [if_neg hany])))))
     refine zqd I (fun Al W I => (HG g W).out) (show (decide (0 ≤ g) && decide (g ≤ 31)) = true from (by rw [decide_eq_true hg.1, decide_eq_true hg.2]; rfl)) fun Al W I => zqd I (fun Al W I => (HG r W).out) (show (decide (0 ≤ r) && decide (r ≤ 31)) = false from (by rw [← Bool.decide_and]; exact dFa hg2)) fun Al W I => zret I (v := fun Al => vI 3) fun Al W I => ⟨congrArg (fun x => Ending.returned (vI x)) ?_, I.below⟩
     (have h := bne_eq_false_iff_eq.1 h13; split at he; rotate_left; omega; rename_i hf; rw [if_neg (Classical.not_not.2 hf)]; first | (rw [if_pos hw]) | (rw [if_neg (Classical.not_not.2 hw)]; first | (rw [if_pos (fun h => hg ⟨h.1, h.2.1⟩)]) | (rw [if_pos (fun h => hg2 ⟨h.2.2.1, h.2.2.2⟩)])))
   refine zqd I (fun Al W I => (HG g W).out) (show (decide (0 ≤ g) && decide (g ≤ 31)) = false from (by rw [← Bool.decide_and]; exact dFa hg)) fun Al W I => zret I (v := fun Al => vI 3) fun Al W I => ⟨congrArg (fun x => Ending.returned (vI x)) ?_, I.below⟩
   (have h := bne_eq_false_iff_eq.1 h13; split at he; rotate_left; omega; rename_i hf; rw [if_neg (Classical.not_not.2 hf)]; first | (rw [if_pos hw]) | (rw [if_neg (Classical.not_not.2 hw)]; (rw [if_pos (fun h => hg ⟨h.1, h.2.1⟩)])))
 refine zqd I (fun Al W I => (HW W).out) (show (decide (1 ≤ a) && decide (a ≤ 5)) = false from (by rw [← Bool.decide_and]; exact dFa hw)) fun Al W I => zret I (v := fun Al => vI 6) fun Al W I => ⟨congrArg (fun x => Ending.returned (vI x)) ?_, I.below⟩
 (have h := bne_eq_false_iff_eq.1 h13; split at he; rotate_left; omega; rename_i hf; rw [if_neg (Classical.not_not.2 hf)]; (rw [if_pos hw]))
theorem v0j {f a g r : Int} {xs : List ByteArray} (h : chkS f a g r xs = 0) : IsFm f ∧ (1 ≤ a ∧ a ≤ 5) ∧ (0 ≤ g ∧ g ≤ 31 ∧ 0 ≤ r ∧ r ≤ 31) ∧ xs.length ≤ 16 ∧ ∀ s, s ∈ xs → s.size = (fmt f).size := by
 unfold chkS at h
 by_cases h1 : IsFm f
 · rw [if_neg (Classical.not_not.2 h1)] at h
   by_cases h2 : 1 ≤ a ∧ a ≤ 5
   · rw [if_neg (Classical.not_not.2 h2)] at h
     by_cases h3 : 0 ≤ g ∧ g ≤ 31 ∧ 0 ≤ r ∧ r ≤ 31
     · rw [if_neg (Classical.not_not.2 h3)] at h
       by_cases h4 : 16 < xs.length
       · rw [if_pos h4] at h; cases h
       · rw [if_neg h4] at h
         by_cases h5 : (xs.any fun s => (s.size : Int) != (((fmt f).size : Nat) : Int)) = true
         · rw [if_pos h5] at h; cases h
         · refine ⟨h1, h2, h3, by omega, fun s hs => ?_⟩
           have h6 := List.any_eq_false.1 (Bool.eq_false_iff.2 h5) s hs
           simp only [bne_iff_ne, ne_eq, Classical.not_not] at h6
           omega
     · rw [if_pos h3] at h; cases h
   · rw [if_pos h2] at h; cases h
 · rw [if_pos h1] at h; cases h
structure OpT where
 d : Int
 n : Int
 t : ByteArray
def OpT.cells (o : OpT) : List Value := [.int .i64 o.d, .int .i64 o.n, .string o.t]
def f0i (l : List OpT) : List Value := l.flatMap OpT.cells
theorem t0u (l : List OpT) : (f0i l).length = l.length * 3 := by
 induction l with
 | nil => rfl
 | cons o l ih => unfold f0i at ih ⊢; rw [List.flatMap_cons, List.length_append, ih, List.length_cons]; show 3 + _ = _; omega
theorem o0a : ∀ (l : List OpT) (i : Nat) (o : OpT), l[i]? = some o → ((f0i l).drop (i * 3)).take 3 = o.cells
 | o :: l, 0, _, h => by cases h; rfl
 | x :: l, i + 1, o, h => by
  have := o0a l i o h
  rw [← this, show (i + 1) * 3 = i * 3 + 3 by omega]
  rfl
def runL (F : St → OpT → St × Int) : St → List OpT → Nat → St × Nat × Int
 | s, [], i => (s, i, 0)
 | s, o :: l, i => if (F s o).2 = 0 then runL F (F s o).1 l (i + 1) else ((F s o).1, i, (F s o).2)
def runR (F : St → OpT → St × Int) (s : St) (xs : List ByteArray) (l : List OpT) : St × Nat × Int :=
 if chkS s.f s.a s.g s.r xs ≠ 0 then (⟨0, 0, 0, 0, []⟩, 0, chkS s.f s.a s.g s.r xs) else if 200 < l.length then (⟨0, 0, 0, 0, []⟩, 0, 2) else runL F s l 0
theorem o1k : w0m Tryz.prog 31 30 3 32 := u0o (z := .agg #[.int .i64 0, .int .i64 0, .string ByteArray.empty]) (by kernel_rfl) (by kernel_rfl) (by kernel_rfl) (by kernel_rfl) (by kernel_rfl)
theorem ldOp : k0o Tryz.prog 30 3 := u0g (by kernel_rfl) (by kernel_rfl)
theorem v0k (f a g r : Int) (xs : List ByteArray) (p : OA) (n c : Nat) (w : World) (hr : RdV w p (sV xs)) (hn : n = xs.length) (hl : xs.length ≤ 9223372036854775807) : Calls Tryz.prog 14 #[stV f a g r p n c] w
 fun en w' => en = .returned (.int .i64 (chkS f a g r xs)) ∧ Below w.heap.size w w' := by
 subst hn
 exact x0q f a g r xs p c w hr hl
def k1z (w : World) (R : St × Nat × Int) (en : Ending) (w' : World) : Prop :=
 ∃ p c, en = .returned (.tuple #[stV R.1.f R.1.a R.1.g R.1.r p R.1.vs.length c, .int .i64 (R.2.1 : Int), .int .i64 R.2.2]) ∧ OwnV w' w.heap.size 9 p c R.1.vs ∧ Below w.heap.size w w'
theorem l1a (F : St → OpT → St × Int) (Good : St → Prop) (f a g r : Int) (xs : List ByteArray) (l : List OpT) (p pl : OA) (c cl : Nat) (w : World) (hr : RdV w p (sV xs)) (hlr : RdV w pl (f0i l)) (hl : xs.length ≤ 9223372036854775807) (hll : l.length ≤ 9223372036854775807) (hT : TabW w)
 (hg0 : chkS f a g r xs = 0 → Good ⟨f, a, g, r, sV xs⟩) (hgood : ∀ s o, o ∈ l → Good s → (F s o).2 = 0 → Good (F s o).1) (hF : ∀ s o, (F s o).2 ≠ 0 → (F s o).1.vs = s.vs)
 (Hstep : ∀ s o p c W, o ∈ l → Good s → TabW W → RdV W p s.vs → Calls Tryz.prog 18 #[stV s.f s.a s.g s.r p s.vs.length c, opV o.d o.n o.t] W (k0m W p c (F s o))) :
 Calls Tryz.prog 9 #[stV f a g r p (sV xs).length c, .slice pl l.length cl] w (k1z w (runR F ⟨f, a, g, r, sV xs⟩ xs l)) := by
 have HC := fun W h => lHd (v0k f a g r xs p (sV xs).length c W h (d0k xs) hl)
 have HL := fun W h (hck : chkS f a g r xs = 0) => lHd (g0z f a g r p (sV xs).length c (sV xs) W h rfl (by rw [d0k]; have := (v0j hck).2.2.2.1; omega) (i1e xs))
 have HS := fun s o p c W (ho : o ∈ l) (hg : Good s) (h : TabW W) h2 (he : (F s o).2 = 0) => lHd ((Hstep s o p c W ho hg h h2).mono (R' := fun en w' => ∃ p' c', en = .returned (.tuple #[stV (F s o).1.f (F s o).1.a (F s o).1.g (F s o).1.r p' (F s o).1.vs.length c', .int .i64 (F s o).2]) ∧ OwnV w' W.heap.size 9 p' c' (F s o).1.vs ∧ Below W.heap.size W w') fun _ _ ⟨h1, _, h3⟩ => by obtain ⟨p', c', x, y⟩ := h1 he; exact ⟨p', c', x, y, h3⟩)
 have HE := fun s o p c W (ho : o ∈ l) (hg : Good s) (h : TabW W) h2 (he : (F s o).2 ≠ 0) => lHd ((Hstep s o p c W ho hg h h2).mono (R' := fun en w' => en = .returned (.tuple #[stV (F s o).1.f (F s o).1.a (F s o).1.g (F s o).1.r p (F s o).1.vs.length c, .int .i64 (F s o).2]) ∧ Below W.heap.size W w') fun _ _ ⟨_, h1, h3⟩ => ⟨h1 he, h3⟩)
 have HX : ∀ i, i < l.length → ∃ o, o ∈ l ∧ ((f0i l).drop (i * 3)).take 3 = o.cells ∧ l.drop i = o :: l.drop (i + 1) := fun i h => ⟨l[i], List.getElem_mem h, o0a l i _ (List.getElem?_eq_getElem h), (List.drop_eq_getElem_cons h)⟩
 have hsol : g0f pl l.length := fun h => hlr.solid (by rw [t0u]; omega)
 clear Hstep
 unfold k1z runR
 dsimp only
 generalize chkS f a g r xs = ck at *
 have I := Inv.start w [tabF, rdvF p (sV xs), rdvF pl (f0i l)] ⟨hT, hr, hlr, True.intro⟩
 refine a0c [.v (.agg #[.int .i64 f, .int .i64 a, .int .i64 g, .int .i64 r, .slice p (sV xs).length c]), .v (.slice pl l.length cl)] I Tryz.func9 ?_
 refine zq I (fun Al W I => (HC W I.fa.2.1).out) fun Al W I => ?_
 rcases bTF (ck != 0) with h15 | h15
 · refine zb I 15 (ck != 0) (true) (h15) fun Al W I => zret I (v := fun Al => .tuple #[.agg #[vI 0, vI 0, vI 0, vI 0, .slice none 0 0], vI 0, vI ck]) fun Al W I => ?_
   (rw [if_pos (bne_iff_ne.1 h15)]; exact ⟨none, 0, rfl, OwnV.nil _ _ _, I.below⟩)
 refine zb I 15 (ck != 0) (false) (h15) fun Al W I => ?_
 rcases bTF (decide ((l.length : Int) > 200)) with h20 | h20
 · refine zb I 20 (decide ((l.length : Int) > 200)) (true) (h20) fun Al W I => zret I (v := fun Al => .tuple #[.agg #[vI 0, vI 0, vI 0, vI 0, .slice none 0 0], vI 0, vI 2]) fun Al W I => ?_
   (rw [if_neg (Classical.not_not.2 (bne_eq_false_iff_eq.1 h15)), if_pos (by have := oTr h20; omega)]; exact ⟨none, 0, rfl, OwnV.nil _ _ _, I.below⟩)
 refine zb I 20 (decide ((l.length : Int) > 200)) (false) (h20) fun Al W I => zg I (fun Al W I => (HL W I.fa.2.1 (bne_eq_false_iff_eq.1 h15)).out) fun Al V Iv _ hB _ kz => ?_
 rintro _ W ⟨q23, d23, rfl, o23, hb⟩
 refine ⟨_, rfl, kz _ _ hb fun I => ?_⟩
 have I := I.ownv o23
 refine i0q I (fun gk fr bx gs => ∃ (U900 : Nat → Value) (i : Nat) (s : St) (p1 : OA) (c1 : Nat), fr = (.v (.agg #[.int .i64 f, .int .i64 a, .int .i64 g, .int .i64 r, .slice p (sV xs).length c]) :: .v (.slice pl l.length cl) :: .p 0 0 :: .v undef :: .p 1 0 :: sw U900 5 2 (.v (.int .i64 ck) :: sw U900 8 7 (.v (.bool false) :: sw U900 16 4 (.v (.bool false) :: sw U900 21 3 (.v (.slice pl l.length cl) :: .v (.int .i64 (l.length : Int)) :: .v (.int .i64 (i : Int)) :: sw U900 27 20 [])))) : List SV) ∧ bx = [⟨25, [.v (.int .i64 s.f), .v (.int .i64 s.a), .v (.int .i64 s.g), .v (.int .i64 s.r), .v (.slice p1 s.vs.length c1)], false⟩, ⟨25, [.v (.int .i64 0), .v (.int .i64 0), .v (.int .i64 0), .v (.int .i64 0), .v (.slice none 0 0)], false⟩] ∧ gs = [b0w w.heap.size 9 p1 c1 s.vs, tabF, rdvF p (sV xs), rdvF pl (f0i l)] ∧ (gk + i = l.length) ∧ (Good s) ∧ (runL F ⟨f, a, g, r, sV xs⟩ l 0 = runL F s (l.drop i) i)) l.length (fun Al W U I => ⟨_, ⟨U, 0, ⟨f, a, g, r, sV xs⟩, q23, d23, rfl, rfl, rfl, (by omega), (hg0 (bne_eq_false_iff_eq.1 h15)), rfl⟩, I.pick [0, 1, 2, 3]⟩) ?_
 rintro J0 gk0 _ _ _ ⟨U900, i, s, p1, c1, rfl, rfl, rfl, hgk, hgd, hrun⟩ hJ0 Al W I
 rcases bTF (decide ((i : Int) < (l.length : Int))) with f27 | f27
 · refine zb I 27 (decide ((i : Int) < (l.length : Int))) (true) (f27) fun Al W I => ?_
   obtain ⟨o, hom, hoc, hod⟩ := HX i (by have := oTr f27; omega)
   refine zx I 29 (fun _ => .pointer (some (at_ pl (i * 3)))) (fun Al W I => (l0z (m := i) (n := l.length) (c := cl) o1k hsol (by have := oTr f27; omega))) fun Al W I => zx I 30 (fun _ => .agg #[vI o.d, vI o.n, .string o.t]) (fun Al W I => (m1j (m := i * 3) I.fa.2.2.2.1 ldOp o.cells hoc rfl)) fun Al W I => ?_
   by_cases he : (F s o).2 = 0
   · refine zg I (fun Al W I => (HS s o p1 c1 W hom hgd I.fa.2.1 I.fa.1.rd he).out) fun Al V Iv _ hB _ kz => ?_
     rintro _ W ⟨p34, c34, rfl, o34, hb⟩
     refine ⟨_, rfl, kz _ _ hb fun I => ?_⟩
     have I := I.ownv o34
     refine zb I 39 (((F s o).2) != 0) (false) (bne_eq_false_iff_eq.2 he) fun Al W I => zi I 43 .i64 ((i : Int) + 1) (((i + 1 : Nat) : Int)) ((by rw [show ((i : Int) + 1) = ((i + 1 : Nat) : Int) by omega]; exact IntWalk.i64_in _ (by have := oTr f27; omega))) fun Al W I => q0y 2 I J0 fun Al W U I => hJ0 (gk0 - 1) _ _ _ _ _ ((by have := oTr f27; omega)) ⟨U, i + 1, (F s o).1, p34, c34, rfl, rfl, rfl, (by have := oTr f27; omega), (hgood s o hom hgd he), (by rw [hrun, hod]; show (if (F s o).2 = 0 then _ else _) = _; rw [if_pos he])⟩ (I.pick [0, 2, 3, 4])
   refine zq I (fun Al W I => (HE s o p1 c1 W hom hgd I.fa.2.1 I.fa.1.rd he).out) fun Al W I => zb I 39 (((F s o).2) != 0) (true) (bne_iff_ne.2 he) fun Al W I => zret I (v := fun Al => .tuple #[.agg #[vI ((F s o).1.f), vI ((F s o).1.a), vI ((F s o).1.g), vI ((F s o).1.r), .slice p1 (F s o).1.vs.length c1], vI (i : Int), vI ((F s o).2)]) fun Al W I => ?_
   (rw [if_neg (Classical.not_not.2 (bne_eq_false_iff_eq.1 h15)), if_neg (by have := oFa h20; omega), hrun, hod, show runL F s (o :: l.drop (i + 1)) i = ((F s o).1, i, (F s o).2) by (show (if (F s o).2 = 0 then _ else _) = _); rw [if_neg he]]; exact ⟨p1, c1, rfl, by rw [hF s o he]; exact I.fa.1, I.below⟩)
 refine zb I 27 (decide ((i : Int) < (l.length : Int))) (false) (f27) fun Al W I => zret I (v := fun Al => .tuple #[.agg #[vI s.f, vI s.a, vI s.g, vI s.r, .slice p1 s.vs.length c1], vI (l.length : Int), vI 0]) fun Al W I => ?_
 (rw [if_neg (Classical.not_not.2 (bne_eq_false_iff_eq.1 h15)), if_neg (by have := oFa h20; omega), hrun, List.drop_eq_nil_of_le (by have := oFa f27; omega), show i = l.length by have := oFa f27; omega]; exact ⟨p1, c1, rfl, I.fa.1, I.below⟩)
theorem and0 (n : Int) : bits .and .i64 n 0 = 0 := by
 show IntKind.i64.wrap ((BitVec.ofInt 64 n &&& BitVec.ofInt 64 0).toNat : Nat) = 0
 rw [show BitVec.ofInt 64 0 = 0#64 from rfl, BitVec.and_zero]
 rfl
def txAt (vs : List Value) (i : Nat) : ByteArray := match vs[i]? with | some (.string s) => s | _ => ByteArray.empty
theorem p0y {xs : List ByteArray} {i : Nat} {s : ByteArray} (h : xs[i]? = some s) : txAt (sV xs) i = s := by unfold txAt; rw [k0n h]
def c1q (n way : Int) (x y : ByteArray) (R : Vr × Nat) : ByteArray := if errR n way [x, y] = 0 then strR n R.1 else a0f []
def flR2 (n way : Int) (x y : ByteArray) (R : Vr × Nat) : Nat := if errR n way [x, y] = 0 then R.2 else 0
theorem i1f {n way : Int} {x y : ByteArray} {R : Vr × Nat} {w : World} {en : Ending} {w' : World} (h : j0l n way [x, y] R w en w') : en = .returned (.tuple #[.string (c1q n way x y R), .int .i64 ((flR2 n way x y R : Nat) : Int), .int .i64 (errR n way [x, y])]) ∧ Below w.heap.size w w' := by
 refine ⟨?_, h.2⟩
 have h := h.1
 unfold c1q flR2
 by_cases h0 : errR n way [x, y] = 0
 · rw [if_pos h0] at h ⊢
   rw [if_pos h0]
   exact h
 · rw [if_neg h0] at h ⊢
   rw [if_neg h0]
   exact h
def twoF (s : St) (R : ByteArray → ByteArray → Vr × Nat) : St × Int :=
 g0b 2 s ((flR2 s.f s.a (txAt s.vs (s.vs.length - 2)) (txAt s.vs (s.vs.length - 1)) (R (txAt s.vs (s.vs.length - 2)) (txAt s.vs (s.vs.length - 1))) : Nat) : Int) (errR s.f s.a [txAt s.vs (s.vs.length - 2), txAt s.vs (s.vs.length - 1)])
  (if errR s.f s.a [txAt s.vs (s.vs.length - 2), txAt s.vs (s.vs.length - 1)] = 0 then s.vs.take (s.vs.length - 2) ++ [.string (c1q s.f s.a (txAt s.vs (s.vs.length - 2)) (txAt s.vs (s.vs.length - 1)) (R (txAt s.vs (s.vs.length - 2)) (txAt s.vs (s.vs.length - 1))))] else s.vs.take (s.vs.length - 2))
def v0l (s : St) (t : ByteArray) : St × Int :=
 g0b 0 s (p0w (a0o s.f s.a (a0b t)) s.vs.length ((flP' s.f s.a (a0b t) : Nat) : Int)) (c0x (a0o s.f s.a (a0b t)) s.vs.length) (if c0x (a0o s.f s.a (a0b t)) s.vs.length = 0 then s.vs ++ [.string (outP s.f s.a (a0b t))] else s.vs)
def v0m (s : St) : St × Int :=
 g0b 1 s 0 (c0x 0 s.vs.length) (if c0x 0 s.vs.length = 0 then s.vs ++ [.string (txAt s.vs (s.vs.length - 1))] else s.vs)
def i0e (s : St) (o : OpT) : St × Int :=
 if o.d = 1 then v0l s o.t
 else if o.d = 11 then v0m s
 else if o.d = 3 then twoF s fun x y => (fmt s.f).addM (refD s.f x) (refD s.f y) s.a
 else twoF s fun x y => (fmt s.f).mulM (refD s.f x) (refD s.f y) s.a
def x0r (s : St) : Prop := ∃ xs, s.vs = sV xs ∧ xs.length ≤ 16
def okOp (o : OpT) : Prop := o.d = 1 ∨ o.d = 11 ∨ o.d = 3 ∨ o.d = 5
theorem g1n {xs : List ByteArray} (h : 2 ≤ xs.length) : (sV xs).drop ((sV xs).length - 2) = [.string (txAt (sV xs) ((sV xs).length - 2)), .string (txAt (sV xs) ((sV xs).length - 1))] := by
 rw [d0k, p0y (List.getElem?_eq_getElem (show xs.length - 2 < xs.length by omega)), p0y (List.getElem?_eq_getElem (show xs.length - 1 < xs.length by omega))]
 apply List.ext_getElem?
 intro i
 rw [List.getElem?_drop]
 match i with
 | 0 => rw [k0n (List.getElem?_eq_getElem (show xs.length - 2 + 0 < xs.length by omega))]; rfl
 | 1 => rw [show xs.length - 2 + 1 = xs.length - 1 by omega, k0n (List.getElem?_eq_getElem (show xs.length - 1 < xs.length by omega))]; rfl
 | i + 2 => rw [List.getElem?_eq_none (by rw [d0k]; omega)]; rfl
theorem g1o (s : St) (o : OpT) (p : OA) (c : Nat) (W : World) (ho : okOp o) (hg : x0r s) (hT : TabW W) (hr : RdV W p s.vs) : Calls Tryz.prog 18 #[stV s.f s.a s.g s.r p s.vs.length c, opV o.d o.n o.t] W (k0m W p c (i0e s o)) := by
 obtain ⟨xs, hv, hl⟩ := hg
 have hl2 : s.vs.length ≤ 16 := by rw [hv, d0k]; exact hl
 have h1 : s.vs.all (·.oneCell') = true := by rw [hv]; exact i1e xs
 have hlast : 1 ≤ s.vs.length → s.vs[s.vs.length - 1]? = some (.string (txAt s.vs (s.vs.length - 1))) := fun h => by
  rw [hv, d0k] at h ⊢
  have h2 := List.getElem?_eq_getElem (show xs.length - 1 < xs.length by omega)
  rw [k0n h2, p0y h2]
 have hdr : 2 ≤ s.vs.length → s.vs.drop (s.vs.length - 2) = [.string (txAt s.vs (s.vs.length - 2)), .string (txAt s.vs (s.vs.length - 1))] := fun h => by
  rw [hv] at h ⊢
  rw [d0k] at h
  exact g1n h
 unfold i0e
 obtain ⟨d, n, t⟩ := o
 dsimp only
 rcases ho with h | h | h | h <;> (have h : d = _ := h; subst h)
 · rw [if_pos rfl]
   exact c1o s n t p c W hT hr hl2 h1
 · rw [if_neg (by decide), if_pos rfl]
   exact x0n s n t _ p c W hT hr hl2 h1 hlast
 · rw [if_neg (by decide), if_neg (by decide), if_pos rfl]
   exact v0i s 3 n t 11 (fun _ _ => by kernel_rfl) (fun W => lHd (n1j W)) _ _ _ _ _ p c W hT hr hl2 h1 hdr fun W h => lHd ((f1y _ _ _ _ W h).mono fun _ _ h => i1f h)
 · rw [if_neg (by decide), if_neg (by decide), if_neg (by decide)]
   exact v0i s 5 n t 80 (fun _ _ => by kernel_rfl) (fun W => lHd (n1k W)) _ _ _ _ _ p c W hT hr hl2 h1 hdr fun W h => lHd ((g1a _ _ _ _ W h).mono fun _ _ h => i1f h)
theorem k0f {need : Nat} {s : St} {fl er : Int} {us : List Value} (h : (g0b need s fl er us).2 = 0) : ¬ s.vs.length < need ∧ er = 0 ∧ (g0b need s fl er us).1.vs = us := by
 unfold g0b at h ⊢
 split at h
 · cases h
 · rename_i h1
   split at h
   · rename_i h2; exact absurd h h2
   · rename_i h2
     split at h
     · cases h
     · rename_i h3
       refine ⟨h1, Classical.not_not.1 h2, ?_⟩
       rw [if_neg h1, if_neg h2, if_neg h3]
theorem h0b {need : Nat} {s : St} {fl er : Int} {us : List Value} (h : (g0b need s fl er us).2 ≠ 0) : (g0b need s fl er us).1.vs = s.vs := by
 unfold g0b at h ⊢
 split
 · rfl
 · split
   · rfl
   · split
     · rfl
     · rename_i h1 h2 h3
       rw [if_neg h1, if_neg h2, if_neg h3] at h
       exact absurd rfl h
theorem c1r (s : St) (o : OpT) (h : (i0e s o).2 ≠ 0) : (i0e s o).1.vs = s.vs := by
 unfold i0e at h ⊢
 split at h
 · rename_i h1; rw [if_pos h1]; exact h0b h
 · rename_i h1; rw [if_neg h1]
   split at h
   · rename_i h2; rw [if_pos h2]; exact h0b h
   · rename_i h2; rw [if_neg h2]
     split at h
     · rename_i h3; rw [if_pos h3]; exact h0b h
     · rename_i h3; rw [if_neg h3]; exact h0b h
theorem o0b {er : Int} {n : Nat} (h : c0x er n = 0) : er = 0 ∧ n ≠ 16 := by
 unfold c0x at h
 split at h
 · cases h
 · rename_i h1; exact ⟨h, fun k => h1 ⟨h, k⟩⟩
theorem s0a {s : St} {R : ByteArray → ByteArray → Vr × Nat} (hg : x0r s) (h : (twoF s R).2 = 0) : x0r (twoF s R).1 := by
 obtain ⟨xs, hv, hl⟩ := hg
 unfold twoF at h ⊢
 obtain ⟨h1, h2, h3⟩ := k0f h
 rw [if_pos h2] at h3
 refine ⟨xs.take (xs.length - 2) ++ [c1q s.f s.a (txAt s.vs (s.vs.length - 2)) (txAt s.vs (s.vs.length - 1)) (R (txAt s.vs (s.vs.length - 2)) (txAt s.vs (s.vs.length - 1)))], ?_, ?_⟩
 · rw [if_pos h2, h3, ← c1p]
   congr 1
   rw [hv, d0k]
   unfold sV
   rw [List.map_take]
 · rw [hv, d0k] at h1
   rw [List.length_append, List.length_take, List.length_singleton]
   omega
theorem c1s (s : St) (o : OpT) (hg : x0r s) (h : (i0e s o).2 = 0) : x0r (i0e s o).1 := by
 unfold i0e at h ⊢
 split at h
 · rename_i h1; rw [if_pos h1]
   obtain ⟨xs, hv, hl⟩ := hg
   unfold v0l at h ⊢
   obtain ⟨a1, a2, a3⟩ := k0f h
   rw [if_pos a2] at a3
   have := o0b a2
   rw [hv, d0k] at this
   refine ⟨xs ++ [outP s.f s.a (a0b o.t)], by rw [if_pos a2, a3, hv, c1p], by rw [List.length_append, List.length_singleton]; omega⟩
 · rename_i h1; rw [if_neg h1]
   split at h
   · rename_i h2; rw [if_pos h2]
     obtain ⟨xs, hv, hl⟩ := hg
     unfold v0m at h ⊢
     obtain ⟨a1, a2, a3⟩ := k0f h
     rw [if_pos a2] at a3
     have := o0b a2
     rw [hv, d0k] at this
     refine ⟨xs ++ [txAt s.vs (s.vs.length - 1)], by rw [if_pos a2, a3, ← c1p, hv], by rw [List.length_append, List.length_singleton]; omega⟩
   · rename_i h2; rw [if_neg h2]
     split at h
     · rename_i h3; rw [if_pos h3]; exact s0a hg h
     · rename_i h3; rw [if_neg h3]; exact s0a hg h
theorem g1p (f a g r : Int) (xs : List ByteArray) (l : List OpT) (p pl : OA) (c cl : Nat) (w : World) (hr : RdV w p (sV xs)) (hlr : RdV w pl (f0i l)) (hl : xs.length ≤ 9223372036854775807) (hll : l.length ≤ 9223372036854775807) (hT : TabW w) (hok : ∀ o, o ∈ l → okOp o) :
 Calls Tryz.prog 9 #[stV f a g r p (sV xs).length c, .slice pl l.length cl] w (k1z w (runR i0e ⟨f, a, g, r, sV xs⟩ xs l)) :=
 l1a i0e x0r f a g r xs l p pl c cl w hr hlr hl hll hT (fun h => ⟨xs, rfl, (v0j h).2.2.2.1⟩) (fun s o _ h h2 => c1s s o h h2) c1r fun s o p c W ho hg hT hr => g1o s o p c W (hok o ho) hg hT hr
/-! ### What comes of it, where all goes well -/
theorem l1b {f a g : Int} {vs : List Value} {t : ByteArray} (h : a0o f a (a0b t) = 0) (hl : vs.length < 16) : v0l ⟨f, a, g, 0, vs⟩ t = (⟨f, a, bits .or .i64 g ((flP' f a (a0b t) : Nat) : Int), 0, vs ++ [.string (outP f a (a0b t))]⟩, 0) := by
 have h1 : c0x (a0o f a (a0b t)) vs.length = 0 := by unfold c0x; rw [if_neg (by omega)]; exact h
 have h2 : p0w (a0o f a (a0b t)) vs.length ((flP' f a (a0b t) : Nat) : Int) = ((flP' f a (a0b t) : Nat) : Int) := by unfold p0w; rw [if_neg (by omega)]
 unfold v0l
 dsimp only
 rw [h1, h2, if_pos rfl, h0a (s := ⟨f, a, g, 0, vs⟩) (by omega) rfl (and0 _)]
theorem l1c {f a g : Int} {xs : List ByteArray} {s : ByteArray} (hs : xs[xs.length - 1]? = some s) (hl : xs.length < 16) (h1 : 1 ≤ xs.length) : v0m ⟨f, a, g, 0, sV xs⟩ = (⟨f, a, bits .or .i64 g 0, 0, sV xs ++ [.string s]⟩, 0) := by
 have h2 : c0x 0 (sV xs).length = 0 := by unfold c0x; rw [if_neg (by rw [d0k]; omega)]
 unfold v0m
 dsimp only
 rw [h2, if_pos rfl, h0a (s := ⟨f, a, g, 0, sV xs⟩) (by show ¬ (sV xs).length < 1; rw [d0k]; omega) rfl (and0 _), d0k, p0y hs]
theorem n1l {f a g : Int} {x y : ByteArray} {R : ByteArray → ByteArray → Vr × Nat} (h : errR f a [x, y] = 0) : twoF ⟨f, a, g, 0, sV [x, y]⟩ R = (⟨f, a, bits .or .i64 g (((R x y).2 : Nat) : Int), 0, sV [strR f (R x y).1]⟩, 0) := by
 unfold twoF
 dsimp only
 have e1 : txAt (sV [x, y]) ((sV [x, y]).length - 2) = x := rfl
 have e2 : txAt (sV [x, y]) ((sV [x, y]).length - 1) = y := rfl
 rw [e1, e2, h, if_pos rfl, h0a (s := ⟨f, a, g, 0, sV [x, y]⟩) (by show ¬ 2 < 2; omega) rfl (and0 _)]
 unfold c1q flR2
 rw [if_pos h, if_pos h]
 rfl
theorem t0v {F : St → OpT → St × Int} {s s' : St} {o : OpT} {l : List OpT} {i : Nat} (h : F s o = (s', 0)) : runL F s (o :: l) i = runL F s' l (i + 1) := by
 show (if (F s o).2 = 0 then _ else _) = _
 rw [h, if_pos rfl]
theorem s0b : a0o 2 1 [50] = 0 := by decide +kernel
theorem g1q {n way : Int} {l : List Nat} (h : a0o n way l = 0) : IsFm n ∧ (1 ≤ way ∧ way ≤ 5) ∧ b0f n (outP n way l) = 0 := by
 have hn : IsFm n := by unfold a0o at h; split at h; assumption; cases h
 have h1 := h
 unfold a0o at h1
 rw [if_pos hn] at h1
 split at h1
 · rename_i h2
   unfold errQ at h1
   rw [if_pos hn] at h1
   split at h1
   · rename_i h3
     refine ⟨hn, h3, ?_⟩
     unfold outP
     rw [if_pos h]
     have hok := c1m h2
     unfold fitQ
     by_cases h0 : (ratL l).2.1 = 0
     · rw [if_pos h0]
       exact (v0h hn (r := ⟨1, false, vz⟩) ⟨⟨Nat.le_refl 1, by show 1 ≤ 5; decide⟩, fun _ h => absurd h (show ¬ false = true by decide), fun h => absurd h (show ¬ 1 = 2 by decide), fun h => absurd h (show ¬ 1 = 3 by decide), fun h => absurd h (show ¬ 1 = 4 by decide), fun h => absurd h (show ¬ 1 = 5 by decide), fun _ => rfl⟩).1
     · rw [if_neg h0]
       exact (v0h hn (g0x (c0y hn) (by have := hok.d0; omega)).1).1
   · cases h1
 · rename_i h2
   exact absurd h1 h2
theorem g1r {n way : Int} {x y : ByteArray} (hn : IsFm n) (hw : 1 ≤ way ∧ way ≤ 5) (hx : b0f n x = 0) (hy : b0f n y = 0) : errR n way [x, y] = 0 := by
 unfold errR
 rw [if_pos hn, if_pos (by unfold errL; rw [if_pos hx]; unfold errL; rw [if_pos hy]; rfl), if_pos hw]
theorem n0a (f a g r : Int) (xs : List ByteArray) (p : OA) (n c : Nat) (w : World) (hr : RdV w p (sV xs)) (hn : n = (sV xs).length) (hl : xs.length ≤ 9223372036854775807) : Calls Tryz.prog 15 #[stV f a g r p n c] w
 fun en w' => en = .returned (.int .i64 (chkS f a g r xs)) ∧ Below w.heap.size w w' := by
 subst hn
 have HF := fun W => lHd (p0o f W)
 have HW := fun W => lHd ((r0m a W).mono (R' := fun en w' => en = .returned (.bool (wayB a)) ∧ Below W.heap.size W w') fun _ _ h => ⟨h.1, h.2 ▸ Below.refl _ _⟩)
 have HX : ∀ i, i < xs.length → ∃ s, (sV xs)[i]? = some (.string s) ∧ s ∈ xs ∧ xs.take (i + 1) = xs.take i ++ [s] ∧ ((∀ s, xs[i]? = some s → s.size = (fmt f).size) ↔ s.size = (fmt f).size) := fun i h => ⟨xs[i], k0n (List.getElem?_eq_getElem h), List.getElem_mem h, by rw [List.take_add_one, List.getElem?_eq_getElem h]; rfl, fun k => k _ (List.getElem?_eq_getElem h), fun k s hs => by rw [List.getElem?_eq_getElem h] at hs; cases hs; exact k⟩
 have hsol : g0f p (sV xs).length := hr.solid
 have hxl := d0k xs
 unfold chkS
 generalize fmt f = F at *
 have I := Inv.start w [rdvF p (sV xs)] ⟨hr, True.intro⟩
 refine a0c [.v (.agg #[.int .i64 f, .int .i64 a, .int .i64 g, .int .i64 r, .slice p (sV xs).length c])] I Tryz.func15 ?_
 refine zq I (fun Al W I => (HF W).out) fun Al W I => ?_
 by_cases hF : IsFm f
 · by_cases hw : 1 ≤ a ∧ a ≤ 5
   · refine zb I 13 (!(decide (IsFm f))) (false) ((by rw [decide_eq_true hF]; rfl)) fun Al W I => zqd I (fun Al W I => (HW W).out) (show (wayB a) = true from (j0e hw.1 hw.2)) fun Al W I => ?_
     by_cases hg : 0 ≤ g ∧ g ≤ 31 ∧ 0 ≤ r ∧ r ≤ 31
     · refine zb I 22 (decide (g < 0)) (false) (dFa (by omega)) fun Al W I => zb I 26 (decide (g > 31)) (false) (dFa (by omega)) fun Al W I => zb I 31 (decide (r < 0)) (false) (dFa (by omega)) fun Al W I => zb I 36 (decide (r > 31)) (false) (dFa (by omega)) fun Al W I => ?_
       rcases bTF (decide ((((sV xs).length : Nat) : Int) > 16)) with h41 | h41
       · refine zb I 41 (decide ((((sV xs).length : Nat) : Int) > 16)) (true) (h41) fun Al W I => zret I (v := fun Al => vI 2) fun Al W I => ⟨congrArg (fun x => Ending.returned (vI x)) ?_, I.below⟩
         first | (rw [if_pos hF]) | (rw [if_neg (Classical.not_not.2 hF)]; first | (rw [if_pos hw]) | (rw [if_neg (Classical.not_not.2 hw)]; first | (rw [if_pos hg]) | (rw [if_neg (Classical.not_not.2 hg)]; (rw [if_pos (by have := oTr h41; omega)]))))
       refine zb I 41 (decide ((((sV xs).length : Nat) : Int) > 16)) (false) (h41) fun Al W I => i0q I (fun gk fr bx gs => ∃ (U900 : Nat → Value) (i : Nat), fr = (.v (.agg #[vI f, vI a, vI g, vI r, vS (sV xs) p c]) :: .p 0 0 :: .v (U900 2) :: .p 1 0 :: .v (.bool (decide (IsFm f))) :: .v (vI (i : Int)) :: sw U900 6 13 (.v (.bool false) :: sw U900 20 17 (.v (.bool false) :: sw U900 38 3 (.v (.bool false) :: sw U900 42 16 []))) : List SV) ∧ bx = [⟨25, [.v (vI f), .v (vI a), .v (vI g), .v (vI r), .v (vS (sV xs) p c)], false⟩, ⟨78, [.v (vI (F.size : Int)), .v (vI (F.E : Int)), .v (vI (F.F : Int)), .v (vI F.g.rad), .v (vI F.g.digs), .v (vI F.g.lo), .v (vI F.g.hi), .v (.bool F.g.grad), .v (vI (F.fam : Int))], false⟩] ∧ gs = [rdvF p (sV xs)] ∧ (gk + i = xs.length) ∧ (∀ s, s ∈ xs.take i → s.size = F.size)) xs.length (fun Al W U I => ⟨_, ⟨U, 0, rfl, rfl, rfl, (by omega), (fun s h => by cases h)⟩, I.pick [0]⟩) ?_
       rintro J0 gk0 _ _ _ ⟨U900, i, rfl, rfl, rfl, hgk, hall⟩ hJ0 Al W I
       rcases bTF (decide ((i : Int) < (((sV xs).length : Nat) : Int))) with f46 | f46
       · refine zb I 46 (decide ((i : Int) < (((sV xs).length : Nat) : Int))) (true) (f46) fun Al W I => ?_
         by_cases hz : ∀ s, xs[i]? = some s → s.size = F.size
         · obtain ⟨s, hs, hsm, hst, hsz⟩ := HX i (by have := oTr f46; omega)
           refine zd [] I fun Al W I => zk [0, 1, 2] I fun I => zkx 3 I (.pointer (some (at_ p i))) (fun _ => (d0z (m := i) (n := (sV xs).length) (c := c) j0j hsol (by have := oTr f46; omega))) fun I => zk [6, 7] I fun I => zo 4 I fun I => zx I 53 (fun _ => .string s) (fun Al W I => (b0a (m := i) I.fa.1 c0b hs)) fun Al W I => zk [5] I fun I => zkb 8 I ((s.size : Int) != (F.size : Int)) (false) (bne_eq_false_iff_eq.2 (by have := hsz.1 hz; omega)) fun I => zi I 48 .i64 ((i : Int) + 1) (((i + 1 : Nat) : Int)) ((by rw [show ((i : Int) + 1) = ((i + 1 : Nat) : Int) by omega]; exact IntWalk.i64_in _ (by have := oTr f46; omega))) fun Al W I => a0j I J0 fun Al W U I => hJ0 (gk0 - 1) _ _ _ _ _ ((by have := oTr f46; omega)) ⟨U, i + 1, rfl, rfl, rfl, (by have := oTr f46; omega), (fun s' h => by rw [hst, List.mem_append, List.mem_singleton] at h; rcases h with h | rfl; exact hall s' h; exact hsz.1 hz)⟩ (I.pick [0])
         obtain ⟨s, hs, hsm, hst, hsz⟩ := HX i (by have := oTr f46; omega)
         refine zd [] I fun Al W I => zk [0, 1, 2] I fun I => zkx 3 I (.pointer (some (at_ p i))) (fun _ => (d0z (m := i) (n := (sV xs).length) (c := c) j0j hsol (by have := oTr f46; omega))) fun I => zk [6, 7] I fun I => zo 4 I fun I => zx I 53 (fun _ => .string s) (fun Al W I => (b0a (m := i) I.fa.1 c0b hs)) fun Al W I => zk [5] I fun I => zkb 8 I ((s.size : Int) != (F.size : Int)) (true) (bne_iff_ne.2 (by have h9 : ¬ s.size = F.size := fun h => hz (hsz.2 h); omega)) fun I => zret I (v := fun Al => vI 1) fun Al W I => ⟨congrArg (fun x => Ending.returned (vI x)) ?_, I.below⟩
         first | (rw [if_pos hF]) | (rw [if_neg (Classical.not_not.2 hF)]; first | (rw [if_pos hw]) | (rw [if_neg (Classical.not_not.2 hw)]; first | (rw [if_pos hg]) | (rw [if_neg (Classical.not_not.2 hg)]; (rw [if_neg (by have := oFa h41; omega)]; (rw [if_pos (List.any_eq_true.2 ⟨s, hsm, by show ((s.size : Int) != (F.size : Int)) = true; exact bne_iff_ne.2 (by have h9 : ¬ s.size = F.size := fun h => hz (hsz.2 h); omega)⟩)])))))
       refine zb I 46 (decide ((i : Int) < (((sV xs).length : Nat) : Int))) (false) (f46) fun Al W I => zret I (v := fun Al => vI 0) fun Al W I => ⟨congrArg (fun x => Ending.returned (vI x)) ?_, I.below⟩
       first | (rw [if_pos hF]) | (rw [if_neg (Classical.not_not.2 hF)]; first | (rw [if_pos hw]) | (rw [if_neg (Classical.not_not.2 hw)]; first | (rw [if_pos hg]) | (rw [if_neg (Classical.not_not.2 hg)]; (rw [if_neg (by have := oFa h41; omega)]; (rw [if_neg (fun h => by obtain ⟨s, hs, h⟩ := List.any_eq_true.1 h; have h1 := bne_iff_ne.1 h; have h2 := hall s (by rw [List.take_of_length_le (by have := oFa f46; omega)]; exact hs); omega)])))))
     by_cases g1 : g < 0
     · refine zb I 22 (decide (g < 0)) (true) (dTr g1) fun Al W I => zret I (v := fun Al => vI 3) fun Al W I => ⟨congrArg (fun x => Ending.returned (vI x)) ?_, I.below⟩
       first | (rw [if_pos hF]) | (rw [if_neg (Classical.not_not.2 hF)]; first | (rw [if_pos hw]) | (rw [if_neg (Classical.not_not.2 hw)]; (rw [if_pos hg])))
     by_cases g2 : 31 < g
     · refine zb I 22 (decide (g < 0)) (false) (dFa g1) fun Al W I => zb I 26 (decide (g > 31)) (true) (dTr g2) fun Al W I => zret I (v := fun Al => vI 3) fun Al W I => ⟨congrArg (fun x => Ending.returned (vI x)) ?_, I.below⟩
       first | (rw [if_pos hF]) | (rw [if_neg (Classical.not_not.2 hF)]; first | (rw [if_pos hw]) | (rw [if_neg (Classical.not_not.2 hw)]; (rw [if_pos hg])))
     by_cases g3 : r < 0
     · refine zb I 22 (decide (g < 0)) (false) (dFa g1) fun Al W I => zb I 26 (decide (g > 31)) (false) (dFa (by omega)) fun Al W I => zb I 31 (decide (r < 0)) (true) (dTr g3) fun Al W I => zret I (v := fun Al => vI 3) fun Al W I => ⟨congrArg (fun x => Ending.returned (vI x)) ?_, I.below⟩
       first | (rw [if_pos hF]) | (rw [if_neg (Classical.not_not.2 hF)]; first | (rw [if_pos hw]) | (rw [if_neg (Classical.not_not.2 hw)]; (rw [if_pos hg])))
     refine zb I 22 (decide (g < 0)) (false) (dFa g1) fun Al W I => zb I 26 (decide (g > 31)) (false) (dFa (by omega)) fun Al W I => zb I 31 (decide (r < 0)) (false) (dFa g3) fun Al W I => zb I 36 (decide (r > 31)) (true) (dTr (by omega)) fun Al W I => zret I (v := fun Al => vI 3) fun Al W I => ⟨congrArg (fun x => Ending.returned (vI x)) ?_, I.below⟩
     first | (rw [if_pos hF]) | (rw [if_neg (Classical.not_not.2 hF)]; first | (rw [if_pos hw]) | (rw [if_neg (Classical.not_not.2 hw)]; (rw [if_pos hg])))
   refine zb I 13 (!(decide (IsFm f))) (false) ((by rw [decide_eq_true hF]; rfl)) fun Al W I => zqd I (fun Al W I => (HW W).out) (show (wayB a) = false from (f0p (by omega))) fun Al W I => zret I (v := fun Al => vI 6) fun Al W I => ⟨congrArg (fun x => Ending.returned (vI x)) ?_, I.below⟩
   first | (rw [if_pos hF]) | (rw [if_neg (Classical.not_not.2 hF)]; (rw [if_pos hw]))
 refine zb I 13 (!(decide (IsFm f))) (true) ((by rw [decide_eq_false hF]; rfl)) fun Al W I => zret I (v := fun Al => vI 6) fun Al W I => ⟨congrArg (fun x => Ending.returned (vI x)) ?_, I.below⟩
 (rw [if_pos hF])
def m0s : List OpT := [⟨1, 0, ⟨#[50]⟩⟩, ⟨11, 0, ByteArray.empty⟩, ⟨5, 0, ByteArray.empty⟩]
theorem c1t : ∃ G z, runR i0e ⟨2, 1, 0, 0, sV []⟩ [] m0s = (⟨2, 1, G, 0, sV [z]⟩, 3, 0) := by
 obtain ⟨hn, hw, hP⟩ := g1q (n := 2) (way := 1) (l := [50]) s0b
 have e1 : i0e ⟨2, 1, 0, 0, sV []⟩ ⟨1, 0, ⟨#[50]⟩⟩ = _ := (if_pos rfl).trans (l1b (g := 0) (vs := sV []) (t := ⟨#[50]⟩) s0b (by decide))
 rw [show sV [] ++ [Value.string (outP 2 1 (a0b ⟨#[50]⟩))] = sV [outP 2 1 [50]] from rfl] at e1
 unfold runR
 rw [if_neg (by decide), if_neg (by decide)]
 generalize outP 2 1 [50] = P at *
 generalize bits .or .i64 0 ((flP' 2 1 (a0b ⟨#[50]⟩) : Nat) : Int) = g1 at *
 have e2 : i0e ⟨2, 1, g1, 0, sV [P]⟩ ⟨11, 0, ByteArray.empty⟩ = _ := ((if_neg (by decide)).trans (if_pos rfl)).trans (l1c (g := g1) (xs := [P]) (s := P) rfl (show 1 < 16 by decide) (Nat.le_refl 1))
 rw [show sV [P] ++ [Value.string P] = sV [P, P] from rfl] at e2
 generalize bits .or .i64 g1 0 = g2 at *
 have e3 : i0e ⟨2, 1, g2, 0, sV [P, P]⟩ ⟨5, 0, ByteArray.empty⟩ = _ := ((if_neg (by decide)).trans ((if_neg (by decide)).trans (if_neg (by decide)))).trans (n1l (g := g2) (g1r hn hw hP hP))
 unfold m0s
 rw [t0v e1, t0v e2, t0v e3]
 exact ⟨_, _, rfl⟩
theorem s0c (G : Int) (z : ByteArray) (hR : runR i0e ⟨2, 1, 0, 0, sV []⟩ [] m0s = (⟨2, 1, G, 0, sV [z]⟩, 3, 0)) (pl : OA) (cl : Nat) (w : World) (hr : RdV w pl (f0i m0s)) (hT : TabW w) : Calls Tryz.prog 9 #[.agg #[.int .i64 2, .int .i64 1, .int .i64 0, .int .i64 0, .slice none 0 0], .slice pl 3 cl] w
 fun en w' => ∃ p c, en = .returned (.tuple #[.agg #[.int .i64 2, .int .i64 1, .int .i64 G, .int .i64 0, .slice p 1 c], .int .i64 3, .int .i64 0]) ∧ OwnV w' w.heap.size 9 p c (sV [z]) ∧ Below w.heap.size w w' := by
 have h := g1p 2 1 0 0 [] m0s none pl 0 cl w (RdV.nil _ _) hr (by decide) (by decide) hT (fun o ho => by
   unfold m0s at ho
   simp only [List.mem_cons, List.not_mem_nil, or_false] at ho
   rcases ho with rfl | rfl | rfl
   · exact .inl rfl
   · exact .inr (.inl rfl)
   · exact .inr (.inr (.inr rfl)))
 rw [hR] at h
 exact h
theorem k0q (w : World) (hT : TabW w) : Calls Tryz.prog 6 #[] w fun en w' => en = .returned (.bool true) ∧ Below w.heap.size w w' := by
 obtain ⟨G, z, hR⟩ := c1t
 have HR := fun pl cl W h h2 => lHd (s0c G z hR pl cl W h h2)
 clear hR
 have I := Inv.start w [tabF] ⟨hT, True.intro⟩
 refine a0c [] I Tryz.func6 ?_
 refine zg I (fun Al W I => (HR (some ⟨(lk 0 Al 0), 0, none⟩) 3 W (h1t (vs := f0i m0s) (I.box 0 30 _)) I.fa.1).out) fun Al V Iv _ hB _ kz => ?_
 rintro _ W ⟨p10, c10, rfl, o10, hb⟩
 refine ⟨_, rfl, kz _ _ hb fun I => ?_⟩
 have I := I.ownv o10
 exact zrb I
theorem k0g (f a g r : Int) (xs : List ByteArray) (p : OA) (n c : Nat) (w : World) (hr : RdV w p (sV xs)) (hn : n = (sV xs).length) (hl : xs.length ≤ 9223372036854775807) (hT : TabW w) : Calls Tryz.prog 4 #[stV f a g r p n c] w
 fun en w' => en = .returned (.bool true) ∧ Below w.heap.size w w' := by
 have HB := fun W h => lHd (k0q W h)
 have HC := fun W h => lHd (v0k f a g r xs p n c W h (hn.trans (d0k xs)) hl)
 have HS := fun W h => lHd (n0a f a g r xs p n c W h hn hl)
 generalize chkS f a g r xs = ck at *
 have I := Inv.start w [tabF, rdvF p (sV xs)] ⟨hT, hr, True.intro⟩
 refine a0c [.v (.agg #[.int .i64 f, .int .i64 a, .int .i64 g, .int .i64 r, .slice p n c])] I Tryz.func4 ?_
 refine zd [] I fun Al W I => zo 0 I fun I => zq I (fun Al W I => (HB W I.fa.1).out) fun Al W I => zk [1, 2, 4] I fun I => zo 3 I fun I => zq I (fun Al W I => (HC W I.fa.2.1).out) fun Al W I => zo 5 I fun I => zq I (fun Al W I => (HS W I.fa.2.1).out) fun Al W I => zkb 6 I (ck == ck) (true) (beq_self_eq_true ck) fun I => zk [7, 8] I fun I => zrb I
theorem j0m (f a g r : Int) (p : OA) (n c : Nat) (xs : List ByteArray) (w : World) (hr : RdV w p (sV xs)) (hn : n = (sV xs).length) (hl : xs.length ≤ 9223372036854775807) (hT : TabW w) (_ : PowW w) : Calls Tryz.prog 4 #[stV f a g r p n c] w
 fun en w' => en = .returned (.bool true) ∧ Below w.heap.size w w' := k0g f a g r xs p n c w hr hn hl hT
end Go.Proofs.YtgbbhlginbmghaaGreatDoor
namespace Go.Proofs.YtgbbhlginbmghaaGreatDoor
open Go.ChangeShapes Go.WideShapes Go.ChangeAt Go.WideMaps Go.WideElems Go.RowKit Go.Slip Go.Joins Go.Deep
theorem s0d {w : World} {x : Addr} {len : Nat} {ss : List ByteArray} (hl : len ≤ ss.length) (hc : ∀ i, i < ss.length → w.cell? (x.add i) = some (.string (ss.getD i ByteArray.empty))) :
 RdV w (some x) (sV (ss.take len)) ∧ (ss.take len).length = len := by
 have h9 : (ss.take len).length = len := by rw [List.length_take]; omega
 refine ⟨⟨fun h0 => ?_, fun j hj => ?_⟩, h9⟩
 · rw [d0k, h9] at h0
   have h1 := hc 0 (by omega)
   refine ⟨rfl, ?_⟩
   have h2 := q0f h1
   simpa [Addr.add] using h2
 · rw [d0k, h9] at hj
   have hjz : j < ss.length := by omega
   have h1 := hc j hjz
   have hspot : x.spot = none := by
    have h2 := q0f (hc 0 (by omega))
    simpa [Addr.add] using h2
   have hat : at_ (some x) j = x.add j := by
    unfold at_ Addr.add
    split
    · rename_i h0; subst h0; cases x; simp_all
    · rfl
   rw [hat, h1, k0n (xs := ss.take len) (i := j) (s := ss[j]) (by rw [List.getElem?_take, if_pos hj, List.getElem?_eq_getElem hjz])]
   simp [List.getD, List.getElem?_eq_getElem hjz]
theorem p0z {H : Type} {enc : TypeId × Value → H} {W : World} {n : Nat} {v : Value} {y : DataW H × List MemPlace} (h : DataW.trod enc Tryz.prog W 0 (fun _ => true) true n 23 [v] = some y) :
 ∃ (p : OA) (n c : Nat) (xs : List ByteArray), v = .slice p n c ∧ RdV W p (sV xs) ∧ n = (sV xs).length ∧ xs.length ≤ 9223372036854775807 := by
 rcases open_strings Tryz.underlying23 Tryz.underlying9 (by kernel_rfl) h with ⟨hcs, _⟩ | ⟨x, l, c, zs, hcs, _, hl, hm, hz, _, hcell, _⟩
 · simp only [List.cons.injEq, and_true] at hcs
   subst hcs
   exact ⟨none, 0, 0, [], rfl, RdV.nil _ _, rfl, Nat.zero_le _⟩
 · simp only [List.cons.injEq, and_true] at hcs
   subst hcs
   have hz1 : zs.length = c := by simpa using hz
   obtain ⟨hr, h9⟩ := s0d (len := l) (by omega) hcell
   unfold maxLen at hm
   exact ⟨some x, l, c, zs.take l, rfl, hr, by rw [d0k, h9], by omega⟩
theorem x0s {H : Type} {enc : TypeId × Value → H} {W : World} {base : Nat} {v : Value} {d : DataW H} {p : List MemPlace} (hv : Value.okWide Tryz.prog W .any base 25 v)
 (h : DataW.Trod enc Tryz.prog W 0 (fun _ => true) true 25 v d p) : ∃ (f a g r : Int) (q : OA) (n c : Nat) (xs : List ByteArray), v = stV f a g r q n c ∧ RdV W q (sV xs) ∧ n = (sV xs).length ∧ xs.length ≤ 9223372036854775807 := by
 obtain ⟨cs, n, rfl, hsz, hf⟩ := t0m Tryz.underlying25 (by kernel_rfl) (by kernel_rfl) hv h
 obtain ⟨c0, c1, c2, c3, c4, rfl⟩ : ∃ c0 c1 c2 c3 c4, cs = #[c0, c1, c2, c3, c4] := by
  obtain ⟨l⟩ := cs
  match l, hsz with
  | [a, b, c, d, e], _ => exact ⟨a, b, c, d, e, rfl⟩
 obtain ⟨_, h0⟩ := hf 0 _ c0 rfl rfl
 obtain ⟨_, h1⟩ := hf 1 _ c1 rfl rfl
 obtain ⟨_, h2⟩ := hf 2 _ c2 rfl rfl
 obtain ⟨_, h3⟩ := hf 3 _ c3 rfl rfl
 obtain ⟨_, h4⟩ := hf 4 _ c4 rfl rfl
 obtain ⟨k0, rfl, _⟩ := j0h h0
 obtain ⟨k1, rfl, _⟩ := j0h h1
 obtain ⟨k2, rfl, _⟩ := j0h h2
 obtain ⟨k3, rfl, _⟩ := j0h h3
 obtain ⟨q, m, c, xs, rfl, r1, l1, b1⟩ := p0z h4
 exact ⟨k0, k1, k2, k3, q, m, c, xs, rfl, r1, l1, b1⟩
end Go.Proofs.YtgbbhlginbmghaaGreatDoor
