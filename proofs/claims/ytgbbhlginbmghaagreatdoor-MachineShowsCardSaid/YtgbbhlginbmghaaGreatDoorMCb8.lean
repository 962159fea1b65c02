/- What the machine's operations do: loading, copying, two that come together. -/
import Derived.Deep.LoopGhost
import Derived.Lib.Strings
import Derived.Lib.Slices
import Derived.Lib.Small
import Derived.Lib.Walk
import Derived.Lib.BitFns
import Derived.Deep.RegionHeld3
import Derived.SliceStrings
import Derived.Test.YtgbbhlginbmghaaGreatDoorMCb1
import Derived.Test.YtgbbhlginbmghaaGreatDoorMCb2
import Derived.Test.YtgbbhlginbmghaaGreatDoorMCb3
import Derived.Test.YtgbbhlginbmghaaGreatDoorMCb4
import Derived.Test.YtgbbhlginbmghaaGreatDoorMCb5
import Derived.Test.YtgbbhlginbmghaaGreatDoorMCb6
import Derived.Test.YtgbbhlginbmghaaGreatDoorMCb7
set_option maxHeartbeats 8000000
set_option maxRecDepth 100000
namespace Go.Proofs.YtgbbhlginbmghaaGreatDoor
open Go.RowKit Go.Slip
def d0g (er : Int) (n : Nat) : Int := if er = 0 ∧ n = 16 then 2 else er
def r0j (er : Int) (n : Nat) (fl : Int) : Int := if er = 0 ∧ n = 16 then 0 else fl
theorem i1t (bw B : Nat) (f a g r : Int) (p : OA) (c : Nat) (vs : List Value) (d n : Int) (t : ByteArray) (v : World) (hT : TabW v) (hl : vs.length ≤ 16) (hw : Wkr B bw f a g r p c vs v) : Calls Tryz.prog 76 #[.pointer (some ⟨bw, 0, none⟩), .agg #[.int .i64 d, .int .i64 n, .string t]] v
 fun en w' => ∃ p' c', en = .returned (.tuple #[.int .i64 (r0j (a0o f a (a0b t)) vs.length ((flP' f a (a0b t) : Nat) : Int)), .int .i64 (d0g (a0o f a (a0b t)) vs.length)]) ∧ Wkr B bw f a g r p' c' (if d0g (a0o f a (a0b t)) vs.length = 0 then vs ++ [.string (outP f a (a0b t))] else vs) w' ∧ WkTo bw p p' v w' := by
 have HP := fun W h => lHd (z0k f t a W h)
 have HF := fun bw p c W h => lHd (x0c bw f a g r p vs.length c W h)
 generalize a0o f a (a0b t) = er at *
 generalize ((flP' f a (a0b t) : Nat) : Int) = fl at *
 generalize outP f a (a0b t) = S at *
 have HD := fun bw B p c W h => lHd (r0g bw B f a g r p c vs S fl er W (by omega) h)
 obtain ⟨w, rfl, h0w, I⟩ := Inv.startM hw [tabF] ⟨hT, True.intro⟩ ⟨fun e => by have e : 0 = bw := e; have h1 := hw.pos; have h2 := hw.ge; omega, True.intro⟩
 have hpos := hw.pos
 have hge := hw.ge
 refine n0a [.p 0 0, .v (.agg #[.int .i64 d, .int .i64 n, .string t])] I Tryz.func76 ?_
 refine zd [] I fun Al W I => zk [0, 1, 2, 3, 4, 5, 6, 7, 8, 9, 10, 11] I fun I => zo 12 I fun I => zq I (fun Al W I => (HP W I.fa.2.2.1).out) fun Al W I => zk [13, 14, 15, 16, 17, 18, 19] I fun I => ?_
 rcases bTF (er == 0) with h27 | h27
 · refine zb I 27 (er == 0) (true) (h27) fun Al W I => zq I (fun Al W I => (HF (lk 0 Al 0) p c W (I.box 0 95 _)).out) fun Al W I => ?_
   rcases bTF (decide ((vs.length : Int) = 16)) with h31 | h31
   · refine zb I 31 (decide ((vs.length : Int) = 16)) (true) (h31) fun Al W I => ?_
     have h9 : er = 0 ∧ vs.length = 16 := ⟨oTr h27, by have := oTr h31; omega⟩
     exact zret I fun Al W I => ⟨p, c, by unfold r0j d0g; rw [if_pos h9, if_pos h9], by unfold d0g; rw [if_pos h9, if_neg (by omega)]; exact I.wkE hge hpos rfl, WkTo.of I h0w I.fa.2.1 fun hp => .inl ⟨hp, rfl⟩⟩
   refine zb I 31 (decide ((vs.length : Int) = 16)) (false) (h31) fun Al W I => d0t I [0, 1] 0 95 v.heap.size (fun Al W I => I.fa.2.1.1) (fun Al W I h9 => ⟨fun h => h.2.2 ⟨h9, rfl⟩, fun e => by have h1 := (I.fa.1.blk_lt h9).1; have e : 0 = _ := e; omega, True.intro⟩) (fun Al W I => (HD (lk 0 Al 0) w.heap.size p c W (I.wk 0 hpos (by rw [I.adE 0 (by simp)]; exact hge) rfl)).out.mono fun _ _ => d0w) ?_
   rintro Al W ⟨p36, c36⟩ hat_36 I
   have h9 : ¬ (er = 0 ∧ vs.length = 16) := by (have := oFa h31; omega)
   exact zret I fun Al W I => ⟨p36, c36, by unfold r0j d0g; rw [if_neg h9, if_neg h9], by unfold d0g; rw [if_neg h9]; exact I.wkE hge hpos rfl, WkTo.of I h0w I.fa.2.1 hat_36⟩
 refine zb I 27 (er == 0) (false) (h27) fun Al W I => d0t I [0, 1] 0 95 v.heap.size (fun Al W I => I.fa.2.1.1) (fun Al W I h9 => ⟨fun h => h.2.2 ⟨h9, rfl⟩, fun e => by have h1 := (I.fa.1.blk_lt h9).1; have e : 0 = _ := e; omega, True.intro⟩) (fun Al W I => (HD (lk 0 Al 0) w.heap.size p c W (I.wk 0 hpos (by rw [I.adE 0 (by simp)]; exact hge) rfl)).out.mono fun _ _ => d0w) ?_
 rintro Al W ⟨p36, c36⟩ hat_36 I
 have h9 : ¬ (er = 0 ∧ vs.length = 16) := by (have := oFa h27; omega)
 exact zret I fun Al W I => ⟨p36, c36, by unfold r0j d0g; rw [if_neg h9, if_neg h9], by unfold d0g; rw [if_neg h9]; exact I.wkE hge hpos rfl, WkTo.of I h0w I.fa.2.1 hat_36⟩
theorem e1s (bw B m : Nat) (f a g r : Int) (p : OA) (c : Nat) (vs : List Value) (d n : Int) (t S : ByteArray) (v : World) (hl : vs.length ≤ 16) (hm : vs.length = m + 1) (hS : vs[m]? = some (.string S)) (hw : Wkr B bw f a g r p c vs v) : Calls Tryz.prog 91 #[.pointer (some ⟨bw, 0, none⟩), .agg #[.int .i64 d, .int .i64 n, .string t]] v
 fun en w' => ∃ p' c', en = .returned (.tuple #[.int .i64 0, .int .i64 (d0g 0 vs.length)]) ∧ Wkr B bw f a g r p' c' (if d0g 0 vs.length = 0 then vs ++ [.string S] else vs) w' ∧ WkTo bw p p' v w' := by
 have HF := fun bw p c W h => lHd (x0c bw f a g r p vs.length c W h)
 have HD := fun bw B p c W h => lHd (r0g bw B f a g r p c vs S 0 0 W (by omega) h)
 obtain ⟨w, rfl, h0w, I⟩ := Inv.startM hw [] True.intro True.intro
 have hpos := hw.pos
 have hge := hw.ge
 refine n0a [.p 0 0, .v (.agg #[.int .i64 d, .int .i64 n, .string t])] I Tryz.func91 ?_
 by_cases h7 : vs.length = 16
 · refine zqd I (fun Al W I => (HF (lk 0 Al 0) p c W (I.box 0 95 _)).out) (dTr (by omega)) fun Al W I => zret I (v := fun Al => .tuple #[vI 0, vI 2]) fun Al W I => ?_
   first | exact ⟨p, c, by unfold d0g; rw [if_pos (show (0 : Int) = 0 ∧ vs.length = 16 from ⟨rfl, h7⟩)], by unfold d0g; rw [if_pos (show (0 : Int) = 0 ∧ vs.length = 16 from ⟨rfl, h7⟩), if_neg (by omega)]; exact I.wkE hge hpos rfl, WkTo.of I h0w I.fa.2.1 fun hp => .inl ⟨hp, rfl⟩⟩ | exact ⟨p23, c23, by unfold d0g; rw [if_neg (fun h : (0 : Int) = 0 ∧ vs.length = 16 => h7 h.2)], by unfold d0g; rw [if_neg (fun h : (0 : Int) = 0 ∧ vs.length = 16 => h7 h.2)]; exact I.wkE hge hpos rfl, WkTo.of I h0w I.fa.2.1 hat_23⟩
 refine zqd I (fun Al W I => (HF (lk 0 Al 0) p c W (I.box 0 95 _)).out) (dFa (by omega)) fun Al W I => zcut I none (fun fr bx gs => ∃ (U1 : Nat → Value) (p23 : OA) (c23 : Nat), fr = (.p 0 0 :: .v (.agg #[vI d, vI n, .string t]) :: vu :: .v (U1 3) :: .v (vI 0) :: .v (vI 0) :: .v (U1 6) :: .v (.bool false) :: sw U1 8 18 [] : List SV) ∧ bx = [⟨95, [.v (vI f), .v (vI a), .v (vI g), .v (vI r), .v (vS (if (0 : Int) = 0 then vs ++ [.string S] else vs) p23 c23)], false⟩, ⟨30, [.v (vI d), .v (vI n), .v (.string t)], false⟩] ∧ gs = [b0s w.heap.size 9 p23 c23 (if (0 : Int) = 0 then vs ++ [.string S] else vs), y0l v (offS bw p)] ∧ ((p23.isSome = true → (p.isSome = true ∧ blk p23 = blk p) ∨ v.heap.size ≤ blk p23))) ?_ ?_
 · intro J hJ Al W I
   refine zd [0] I fun Al W I => zk [0, 1, 2, 3, 4, 6, 7, 8, 9] I fun I => zo2 5 10 I (fun I => ?_) (fun I => ?_)
   · refine zn I fun Al W I => zo 10 I fun I => zn I fun Al W I => zk [11] I fun I => zki 12 I .i64 ((vs.length : Int) - 1) ((m : Int)) ((by rw [show (vs.length : Int) - 1 = (m : Int) by omega]; exact iwo)) fun I => zkx 13 I (.pointer (some (at_ p m))) (fun _ => (d0k (m := m) (n := vs.length) (c := c) g0v I.fa.1.rd.solid (by omega))) fun I => zo 14 I fun I => zx I 22 (fun _ => .string S) (fun Al W I => (b0e (m := m) I.fa.1.rd c0a hS)) fun Al W I => zo 15 I fun I => d0t I [0] 0 95 v.heap.size (fun Al W I => I.fa.2.1.1) (fun Al W I h9 => ⟨fun h => h.2.2 ⟨h9, rfl⟩, True.intro⟩) (fun Al W I => (HD (lk 0 Al 0) w.heap.size p c W (I.wk 0 hpos (by rw [I.adE 0 (by simp)]; exact hge) rfl)).out.mono fun _ _ => d0w) ?_
     rintro Al W ⟨p23, c23⟩ hat_23 I
     refine zk [16, 17, 18, 19] I fun I => a0j I J fun Al W U I => hJ _ _ _ _ _ ⟨U, p23, c23, rfl, rfl, rfl, hat_23⟩ (I.pick [0, 1])
   refine zn I fun Al W I => zk [11] I fun I => zki 12 I .i64 ((vs.length : Int) - 1) ((m : Int)) ((by rw [show (vs.length : Int) - 1 = (m : Int) by omega]; exact iwo)) fun I => zo 5 I fun I => zn I fun Al W I => zkx 13 I (.pointer (some (at_ p m))) (fun _ => (d0k (m := m) (n := vs.length) (c := c) g0v I.fa.1.rd.solid (by omega))) fun I => zo 14 I fun I => zx I 22 (fun _ => .string S) (fun Al W I => (b0e (m := m) I.fa.1.rd c0a hS)) fun Al W I => zo 15 I fun I => d0t I [0] 0 95 v.heap.size (fun Al W I => I.fa.2.1.1) (fun Al W I h9 => ⟨fun h => h.2.2 ⟨h9, rfl⟩, True.intro⟩) (fun Al W I => (HD (lk 0 Al 0) w.heap.size p c W (I.wk 0 hpos (by rw [I.adE 0 (by simp)]; exact hge) rfl)).out.mono fun _ _ => d0w) ?_
   rintro Al W ⟨p23, c23⟩ hat_23 I
   refine zk [16, 17, 18, 19] I fun I => a0j I J fun Al W U I => hJ _ _ _ _ _ ⟨U, p23, c23, rfl, rfl, rfl, hat_23⟩ (I.pick [0, 1])
 rintro _ _ _ ⟨U1, p23, c23, rfl, rfl, rfl, hat_23⟩ Al W I
 refine zret I (v := fun Al => .tuple #[vI 0, vI 0]) fun Al W I => ?_
 first | exact ⟨p, c, by unfold d0g; rw [if_pos (show (0 : Int) = 0 ∧ vs.length = 16 from ⟨rfl, h7⟩)], by unfold d0g; rw [if_pos (show (0 : Int) = 0 ∧ vs.length = 16 from ⟨rfl, h7⟩), if_neg (by omega)]; exact I.wkE hge hpos rfl, WkTo.of I h0w I.fa.2.1 fun hp => .inl ⟨hp, rfl⟩⟩ | exact ⟨p23, c23, by unfold d0g; rw [if_neg (fun h : (0 : Int) = 0 ∧ vs.length = 16 => h7 h.2)], by unfold d0g; rw [if_neg (fun h : (0 : Int) = 0 ∧ vs.length = 16 => h7 h.2)]; exact I.wkE hge hpos rfl, WkTo.of I h0w I.fa.2.1 hat_23⟩
abbrev tyF2 : TypeId := 34
theorem i1u (F : FuncId) (hF : ∀ args w, (callFunc F args).run Tryz.prog w = .ok (.enter F args) w) (bw B m cb : Nat) (f a g r : Int) (p : OA) (c : Nat) (vs : List Value) (d n : Int) (t x y S : ByteArray) (fl er : Int) (v : World) (hT : TabW v) (hl : vs.length ≤ 16) (hm : vs.length = m + 2) (hd : vs.drop m = [.string x, .string y]) (h1 : vs.all (·.oneCell') = true)
 (hcb : Bt v cb tyF2 #[.func (.func F) #[] #[]]) (hne : cb ≠ bw)
 (hrow : p.isSome = true → blk p ≠ cb) (hc0 : 0 < cb)
 (HF : ∀ W, TabW W → Hid (Calls Tryz.prog F #[.int .i64 f, .string x, .string y, .int .i64 a] W fun en w' => en = .returned (.tuple #[.string S, .int .i64 fl, .int .i64 er]) ∧ Below W.heap.size W w')) (hw : Wkr B bw f a g r p c vs v) : Calls Tryz.prog 145 #[.pointer (some ⟨bw, 0, none⟩), .agg #[.int .i64 d, .int .i64 n, .string t], .pointer (some ⟨cb, 0, none⟩)] v
 fun en w' => ∃ p' c', en = .returned (.tuple #[.int .i64 fl, .int .i64 er]) ∧ Wkr B bw f a g r p' c' (if er = 0 then vs.take m ++ [.string S] else vs.take m) w' ∧ WkTo bw p p' v w' := by
 have HP := fun bw B p c W h => lHd (n1d bw B m 2 f a g r p c vs W (by omega) hm (by omega) h1 h)
 simp only [hd] at HP
 have HD := fun bw B p c W h => lHd (r0g bw B f a g r p c (vs.take m) S fl er W (by rw [List.length_take]; omega) h)
 have hlt : m = (vs.take m).length := by rw [List.length_take]; omega
 obtain ⟨w, rfl, h0w, I⟩ := Inv.startM2 hw [.func (.func F) #[] #[]] hcb hne hrow [tabF] ⟨hT, True.intro⟩ ⟨fun e => by have e : 0 = bw := e; have h1 := hw.pos; have h2 := hw.ge; omega, True.intro⟩ ⟨(fun e => Nat.ne_of_lt hc0 e), True.intro⟩
 have hpos := hw.pos
 have hge := hw.ge
 refine n0a [.p 0 0, .v (.agg #[.int .i64 d, .int .i64 n, .string t]), .p 1 0] I Tryz.func145 ?_
 refine d0t I [0, 1] 0 95 0 (fun Al W I => Nat.zero_le _) (fun Al W I h9 => ⟨fun h => h.2.2 ⟨h9, rfl⟩, fun e => by have h1 := (I.fa.1.blk_lt h9).1; have e : 0 = _ := e; omega, True.intro⟩) (fun Al W I => (HP (lk 0 Al 0) w.heap.size p c W (I.wk 0 hpos (by rw [I.adE 0 (by simp)]; exact hge) rfl)).out.mono fun _ _ => q1r I.bel.size) ?_
 rintro Al W ⟨q9, d9⟩ hat_9 I
 refine zcut I none (fun fr bx gs => ∃ (U1 : Nat → Value) (p32 : OA) (c32 : Nat), fr = (.p 0 0 :: .v (.agg #[vI d, vI n, .string t]) :: .p 1 0 :: vu :: .v (U1 4) :: .v (vI fl) :: .v (vI er) :: .v (.slice q9 2 d9) :: sw U1 8 27 [] : List SV) ∧ bx = [⟨95, [.v (vI f), .v (vI a), .v (vI g), .v (vI r), .v (vS (if er = 0 then vs.take m ++ [.string S] else vs.take m) p32 c32)], false⟩, ⟨tyF2, [.v (.func (.func F) #[] #[])], false⟩, ⟨30, [.v (vI d), .v (vI n), .v (.string t)], false⟩] ∧ gs = [b0s w.heap.size 9 p32 c32 (if er = 0 then vs.take m ++ [.string S] else vs.take m), y0l v (m1c bw cb p)] ∧ ((p32.isSome = true → (p.isSome = true ∧ blk p32 = blk p) ∨ v.heap.size ≤ blk p32))) ?_ ?_
 · intro J hJ Al W I
   refine zd [0] I fun Al W I => zk [0, 1, 2, 3, 4, 5, 7] I fun I => zkx 8 I (.pointer (some (at_ q9 0))) (fun _ => (d0k (m := 0) (n := 2) (c := d9) g0v I.fa.2.1.rd.solid (by omega))) fun I => zk [10] I fun I => zkx 11 I (.pointer (some (at_ q9 1))) (fun _ => (d0k (m := 1) (n := 2) (c := d9) g0v I.fa.2.1.rd.solid (by omega))) fun I => zk [13, 14, 15, 16] I fun I => zo4 6 9 12 17 I (fun I => ?_) (fun I => ?_) (fun I => ?_) (fun I => ?_)
   · refine zn I fun Al W I => zo3 9 12 17 I (fun I => ?_) (fun I => ?_) (fun I => ?_)
     · refine zx I 19 (fun _ => .string x) (fun Al W I => (b0e (m := 0) I.fa.2.1.rd c0a rfl)) fun Al W I => zo2 12 17 I (fun I => ?_) (fun I => ?_)
       · refine zx I 22 (fun _ => .string y) (fun Al W I => (b0e (m := 1) I.fa.2.1.rd c0a rfl)) fun Al W I => zo 17 I fun I => zn I fun Al W I => zo 18 I fun I => zgf (hf := hF) I (fun Al W I => (HF W I.fa.2.2.2.1).out) fun Al V Iv _ hB _ kz => ?_
         rintro _ W ⟨rfl, hb⟩
         refine ⟨_, rfl, kz _ _ hb fun I => ?_⟩
         refine zk [19, 20, 21] I fun I => zo 22 I fun I => d0t I [1] 0 95 v.heap.size (fun Al W I => I.fa.2.2.1.1) (fun Al W I h9 => ⟨fun h => h.2.2 ⟨h9, rfl⟩, True.intro⟩) (fun Al W I => (HD (lk 0 Al 0) w.heap.size p c W (I.wk 0 hpos (by rw [I.adE 0 (by simp)]; exact hge) rfl)).out.mono fun _ _ => d0w) ?_
         rintro Al W ⟨p32, c32⟩ hat_32 I
         refine zk [23, 24, 25, 26] I fun I => a0j I J fun Al W U I => hJ _ _ _ _ _ ⟨U, p32, c32, rfl, rfl, rfl, hat_32⟩ (I.pick [0, 1])
       refine zn I fun Al W I => zo 12 I fun I => zx I 22 (fun _ => .string y) (fun Al W I => (b0e (m := 1) I.fa.2.1.rd c0a rfl)) fun Al W I => zo 18 I fun I => zgf (hf := hF) I (fun Al W I => (HF W I.fa.2.2.2.1).out) fun Al V Iv _ hB _ kz => ?_
       rintro _ W ⟨rfl, hb⟩
       refine ⟨_, rfl, kz _ _ hb fun I => ?_⟩
       refine zk [19, 20, 21] I fun I => zo 22 I fun I => d0t I [1] 0 95 v.heap.size (fun Al W I => I.fa.2.2.1.1) (fun Al W I h9 => ⟨fun h => h.2.2 ⟨h9, rfl⟩, True.intro⟩) (fun Al W I => (HD (lk 0 Al 0) w.heap.size p c W (I.wk 0 hpos (by rw [I.adE 0 (by simp)]; exact hge) rfl)).out.mono fun _ _ => d0w) ?_
       rintro Al W ⟨p32, c32⟩ hat_32 I
       refine zk [23, 24, 25, 26] I fun I => a0j I J fun Al W U I => hJ _ _ _ _ _ ⟨U, p32, c32, rfl, rfl, rfl, hat_32⟩ (I.pick [0, 1])
     · refine zx I 22 (fun _ => .string y) (fun Al W I => (b0e (m := 1) I.fa.2.1.rd c0a rfl)) fun Al W I => zo2 9 17 I (fun I => ?_) (fun I => ?_)
       · refine zx I 19 (fun _ => .string x) (fun Al W I => (b0e (m := 0) I.fa.2.1.rd c0a rfl)) fun Al W I => zo 17 I fun I => zn I fun Al W I => zo 18 I fun I => zgf (hf := hF) I (fun Al W I => (HF W I.fa.2.2.2.1).out) fun Al V Iv _ hB _ kz => ?_
         rintro _ W ⟨rfl, hb⟩
         refine ⟨_, rfl, kz _ _ hb fun I => ?_⟩
         refine zk [19, 20, 21] I fun I => zo 22 I fun I => d0t I [1] 0 95 v.heap.size (fun Al W I => I.fa.2.2.1.1) (fun Al W I h9 => ⟨fun h => h.2.2 ⟨h9, rfl⟩, True.intro⟩) (fun Al W I => (HD (lk 0 Al 0) w.heap.size p c W (I.wk 0 hpos (by rw [I.adE 0 (by simp)]; exact hge) rfl)).out.mono fun _ _ => d0w) ?_
         rintro Al W ⟨p32, c32⟩ hat_32 I
         refine zk [23, 24, 25, 26] I fun I => a0j I J fun Al W U I => hJ _ _ _ _ _ ⟨U, p32, c32, rfl, rfl, rfl, hat_32⟩ (I.pick [0, 1])
       refine zn I fun Al W I => zo 9 I fun I => zx I 19 (fun _ => .string x) (fun Al W I => (b0e (m := 0) I.fa.2.1.rd c0a rfl)) fun Al W I => zo 18 I fun I => zgf (hf := hF) I (fun Al W I => (HF W I.fa.2.2.2.1).out) fun Al V Iv _ hB _ kz => ?_
       rintro _ W ⟨rfl, hb⟩
       refine ⟨_, rfl, kz _ _ hb fun I => ?_⟩
       refine zk [19, 20, 21] I fun I => zo 22 I fun I => d0t I [1] 0 95 v.heap.size (fun Al W I => I.fa.2.2.1.1) (fun Al W I h9 => ⟨fun h => h.2.2 ⟨h9, rfl⟩, True.intro⟩) (fun Al W I => (HD (lk 0 Al 0) w.heap.size p c W (I.wk 0 hpos (by rw [I.adE 0 (by simp)]; exact hge) rfl)).out.mono fun _ _ => d0w) ?_
       rintro Al W ⟨p32, c32⟩ hat_32 I
       refine zk [23, 24, 25, 26] I fun I => a0j I J fun Al W U I => hJ _ _ _ _ _ ⟨U, p32, c32, rfl, rfl, rfl, hat_32⟩ (I.pick [0, 1])
     refine zn I fun Al W I => l0o I [(9, .v (.string x)), (12, .v (.string y))] (fun Al W I => ?_) (fun KL11 => ?_)
     · refine zo 18 I fun I => zgf (hf := hF) I (fun Al W I => (HF W I.fa.2.2.2.1).out) fun Al V Iv _ hB _ kz => ?_
       rintro _ W ⟨rfl, hb⟩
       refine ⟨_, rfl, kz _ _ hb fun I => ?_⟩
       refine zk [19, 20, 21] I fun I => zo 22 I fun I => d0t I [1] 0 95 v.heap.size (fun Al W I => I.fa.2.2.1.1) (fun Al W I h9 => ⟨fun h => h.2.2 ⟨h9, rfl⟩, True.intro⟩) (fun Al W I => (HD (lk 0 Al 0) w.heap.size p c W (I.wk 0 hpos (by rw [I.adE 0 (by simp)]; exact hge) rfl)).out.mono fun _ _ => d0w) ?_
       rintro Al W ⟨p32, c32⟩ hat_32 I
       refine zk [23, 24, 25, 26] I fun I => a0j I J fun Al W U I => hJ _ _ _ _ _ ⟨U, p32, c32, rfl, rfl, rfl, hat_32⟩ (I.pick [0, 1])
     refine l0o I [(9, .v (.string x))] (fun Al W I => ?_) (fun KL9 => ?_)
     · refine zo 12 I fun I => zx I 22 (fun _ => .string y) (fun Al W I => (b0e (m := 1) I.fa.2.1.rd c0a rfl)) fun Al W I => zuse KL11 I
     refine l0o I [(12, .v (.string y))] (fun Al W I => ?_) (fun KL10 => ?_)
     · refine zo 9 I fun I => zx I 19 (fun _ => .string x) (fun Al W I => (b0e (m := 0) I.fa.2.1.rd c0a rfl)) fun Al W I => zuse KL11 I
     refine zo2 9 12 I (fun I => ?_) (fun I => ?_)
     · refine zx I 19 (fun _ => .string x) (fun Al W I => (b0e (m := 0) I.fa.2.1.rd c0a rfl)) fun Al W I => zuse KL9 I
     refine zx I 22 (fun _ => .string y) (fun Al W I => (b0e (m := 1) I.fa.2.1.rd c0a rfl)) fun Al W I => zuse KL10 I
   · refine zx I 19 (fun _ => .string x) (fun Al W I => (b0e (m := 0) I.fa.2.1.rd c0a rfl)) fun Al W I => zo3 6 12 17 I (fun I => ?_) (fun I => ?_) (fun I => ?_)
     · refine zn I fun Al W I => zo2 12 17 I (fun I => ?_) (fun I => ?_)
       · refine zx I 22 (fun _ => .string y) (fun Al W I => (b0e (m := 1) I.fa.2.1.rd c0a rfl)) fun Al W I => zo 17 I fun I => zn I fun Al W I => zo 18 I fun I => zgf (hf := hF) I (fun Al W I => (HF W I.fa.2.2.2.1).out) fun Al V Iv _ hB _ kz => ?_
         rintro _ W ⟨rfl, hb⟩
         refine ⟨_, rfl, kz _ _ hb fun I => ?_⟩
         refine zk [19, 20, 21] I fun I => zo 22 I fun I => d0t I [1] 0 95 v.heap.size (fun Al W I => I.fa.2.2.1.1) (fun Al W I h9 => ⟨fun h => h.2.2 ⟨h9, rfl⟩, True.intro⟩) (fun Al W I => (HD (lk 0 Al 0) w.heap.size p c W (I.wk 0 hpos (by rw [I.adE 0 (by simp)]; exact hge) rfl)).out.mono fun _ _ => d0w) ?_
         rintro Al W ⟨p32, c32⟩ hat_32 I
         refine zk [23, 24, 25, 26] I fun I => a0j I J fun Al W U I => hJ _ _ _ _ _ ⟨U, p32, c32, rfl, rfl, rfl, hat_32⟩ (I.pick [0, 1])
       refine zn I fun Al W I => zo 12 I fun I => zx I 22 (fun _ => .string y) (fun Al W I => (b0e (m := 1) I.fa.2.1.rd c0a rfl)) fun Al W I => zo 18 I fun I => zgf (hf := hF) I (fun Al W I => (HF W I.fa.2.2.2.1).out) fun Al V Iv _ hB _ kz => ?_
       rintro _ W ⟨rfl, hb⟩
       refine ⟨_, rfl, kz _ _ hb fun I => ?_⟩
       refine zk [19, 20, 21] I fun I => zo 22 I fun I => d0t I [1] 0 95 v.heap.size (fun Al W I => I.fa.2.2.1.1) (fun Al W I h9 => ⟨fun h => h.2.2 ⟨h9, rfl⟩, True.intro⟩) (fun Al W I => (HD (lk 0 Al 0) w.heap.size p c W (I.wk 0 hpos (by rw [I.adE 0 (by simp)]; exact hge) rfl)).out.mono fun _ _ => d0w) ?_
       rintro Al W ⟨p32, c32⟩ hat_32 I
       refine zk [23, 24, 25, 26] I fun I => a0j I J fun Al W U I => hJ _ _ _ _ _ ⟨U, p32, c32, rfl, rfl, rfl, hat_32⟩ (I.pick [0, 1])
     · refine zx I 22 (fun _ => .string y) (fun Al W I => (b0e (m := 1) I.fa.2.1.rd c0a rfl)) fun Al W I => zo2 6 17 I (fun I => ?_) (fun I => ?_)
       · refine zn I fun Al W I => zo 17 I fun I => zn I fun Al W I => zo 18 I fun I => zgf (hf := hF) I (fun Al W I => (HF W I.fa.2.2.2.1).out) fun Al V Iv _ hB _ kz => ?_
         rintro _ W ⟨rfl, hb⟩
         refine ⟨_, rfl, kz _ _ hb fun I => ?_⟩
         refine zk [19, 20, 21] I fun I => zo 22 I fun I => d0t I [1] 0 95 v.heap.size (fun Al W I => I.fa.2.2.1.1) (fun Al W I h9 => ⟨fun h => h.2.2 ⟨h9, rfl⟩, True.intro⟩) (fun Al W I => (HD (lk 0 Al 0) w.heap.size p c W (I.wk 0 hpos (by rw [I.adE 0 (by simp)]; exact hge) rfl)).out.mono fun _ _ => d0w) ?_
         rintro Al W ⟨p32, c32⟩ hat_32 I
         refine zk [23, 24, 25, 26] I fun I => a0j I J fun Al W U I => hJ _ _ _ _ _ ⟨U, p32, c32, rfl, rfl, rfl, hat_32⟩ (I.pick [0, 1])
       refine zn I fun Al W I => zo 6 I fun I => zn I fun Al W I => zo 18 I fun I => zgf (hf := hF) I (fun Al W I => (HF W I.fa.2.2.2.1).out) fun Al V Iv _ hB _ kz => ?_
       rintro _ W ⟨rfl, hb⟩
       refine ⟨_, rfl, kz _ _ hb fun I => ?_⟩
       refine zk [19, 20, 21] I fun I => zo 22 I fun I => d0t I [1] 0 95 v.heap.size (fun Al W I => I.fa.2.2.1.1) (fun Al W I h9 => ⟨fun h => h.2.2 ⟨h9, rfl⟩, True.intro⟩) (fun Al W I => (HD (lk 0 Al 0) w.heap.size p c W (I.wk 0 hpos (by rw [I.adE 0 (by simp)]; exact hge) rfl)).out.mono fun _ _ => d0w) ?_
       rintro Al W ⟨p32, c32⟩ hat_32 I
       refine zk [23, 24, 25, 26] I fun I => a0j I J fun Al W U I => hJ _ _ _ _ _ ⟨U, p32, c32, rfl, rfl, rfl, hat_32⟩ (I.pick [0, 1])
     refine zn I fun Al W I => zo2 6 12 I (fun I => ?_) (fun I => ?_)
     · refine zn I fun Al W I => zo 12 I fun I => zx I 22 (fun _ => .string y) (fun Al W I => (b0e (m := 1) I.fa.2.1.rd c0a rfl)) fun Al W I => zo 18 I fun I => zgf (hf := hF) I (fun Al W I => (HF W I.fa.2.2.2.1).out) fun Al V Iv _ hB _ kz => ?_
       rintro _ W ⟨rfl, hb⟩
       refine ⟨_, rfl, kz _ _ hb fun I => ?_⟩
       refine zk [19, 20, 21] I fun I => zo 22 I fun I => d0t I [1] 0 95 v.heap.size (fun Al W I => I.fa.2.2.1.1) (fun Al W I h9 => ⟨fun h => h.2.2 ⟨h9, rfl⟩, True.intro⟩) (fun Al W I => (HD (lk 0 Al 0) w.heap.size p c W (I.wk 0 hpos (by rw [I.adE 0 (by simp)]; exact hge) rfl)).out.mono fun _ _ => d0w) ?_
       rintro Al W ⟨p32, c32⟩ hat_32 I
       refine zk [23, 24, 25, 26] I fun I => a0j I J fun Al W U I => hJ _ _ _ _ _ ⟨U, p32, c32, rfl, rfl, rfl, hat_32⟩ (I.pick [0, 1])
     refine zx I 22 (fun _ => .string y) (fun Al W I => (b0e (m := 1) I.fa.2.1.rd c0a rfl)) fun Al W I => zo 6 I fun I => zn I fun Al W I => zo 18 I fun I => zgf (hf := hF) I (fun Al W I => (HF W I.fa.2.2.2.1).out) fun Al V Iv _ hB _ kz => ?_
     rintro _ W ⟨rfl, hb⟩
     refine ⟨_, rfl, kz _ _ hb fun I => ?_⟩
     refine zk [19, 20, 21] I fun I => zo 22 I fun I => d0t I [1] 0 95 v.heap.size (fun Al W I => I.fa.2.2.1.1) (fun Al W I h9 => ⟨fun h => h.2.2 ⟨h9, rfl⟩, True.intro⟩) (fun Al W I => (HD (lk 0 Al 0) w.heap.size p c W (I.wk 0 hpos (by rw [I.adE 0 (by simp)]; exact hge) rfl)).out.mono fun _ _ => d0w) ?_
     rintro Al W ⟨p32, c32⟩ hat_32 I
     refine zk [23, 24, 25, 26] I fun I => a0j I J fun Al W U I => hJ _ _ _ _ _ ⟨U, p32, c32, rfl, rfl, rfl, hat_32⟩ (I.pick [0, 1])
   · refine zx I 22 (fun _ => .string y) (fun Al W I => (b0e (m := 1) I.fa.2.1.rd c0a rfl)) fun Al W I => zo3 6 9 17 I (fun I => ?_) (fun I => ?_) (fun I => ?_)
     · refine zn I fun Al W I => zo2 9 17 I (fun I => ?_) (fun I => ?_)
       · refine zx I 19 (fun _ => .string x) (fun Al W I => (b0e (m := 0) I.fa.2.1.rd c0a rfl)) fun Al W I => zo 17 I fun I => zn I fun Al W I => zo 18 I fun I => zgf (hf := hF) I (fun Al W I => (HF W I.fa.2.2.2.1).out) fun Al V Iv _ hB _ kz => ?_
         rintro _ W ⟨rfl, hb⟩
         refine ⟨_, rfl, kz _ _ hb fun I => ?_⟩
         refine zk [19, 20, 21] I fun I => zo 22 I fun I => d0t I [1] 0 95 v.heap.size (fun Al W I => I.fa.2.2.1.1) (fun Al W I h9 => ⟨fun h => h.2.2 ⟨h9, rfl⟩, True.intro⟩) (fun Al W I => (HD (lk 0 Al 0) w.heap.size p c W (I.wk 0 hpos (by rw [I.adE 0 (by simp)]; exact hge) rfl)).out.mono fun _ _ => d0w) ?_
         rintro Al W ⟨p32, c32⟩ hat_32 I
         refine zk [23, 24, 25, 26] I fun I => a0j I J fun Al W U I => hJ _ _ _ _ _ ⟨U, p32, c32, rfl, rfl, rfl, hat_32⟩ (I.pick [0, 1])
       refine zn I fun Al W I => zo 9 I fun I => zx I 19 (fun _ => .string x) (fun Al W I => (b0e (m := 0) I.fa.2.1.rd c0a rfl)) fun Al W I => zo 18 I fun I => zgf (hf := hF) I (fun Al W I => (HF W I.fa.2.2.2.1).out) fun Al V Iv _ hB _ kz => ?_
       rintro _ W ⟨rfl, hb⟩
       refine ⟨_, rfl, kz _ _ hb fun I => ?_⟩
       refine zk [19, 20, 21] I fun I => zo 22 I fun I => d0t I [1] 0 95 v.heap.size (fun Al W I => I.fa.2.2.1.1) (fun Al W I h9 => ⟨fun h => h.2.2 ⟨h9, rfl⟩, True.intro⟩) (fun Al W I => (HD (lk 0 Al 0) w.heap.size p c W (I.wk 0 hpos (by rw [I.adE 0 (by simp)]; exact hge) rfl)).out.mono fun _ _ => d0w) ?_
       rintro Al W ⟨p32, c32⟩ hat_32 I
       refine zk [23, 24, 25, 26] I fun I => a0j I J fun Al W U I => hJ _ _ _ _ _ ⟨U, p32, c32, rfl, rfl, rfl, hat_32⟩ (I.pick [0, 1])
     · refine zx I 19 (fun _ => .string x) (fun Al W I => (b0e (m := 0) I.fa.2.1.rd c0a rfl)) fun Al W I => zo2 6 17 I (fun I => ?_) (fun I => ?_)
       · refine zn I fun Al W I => zo 17 I fun I => zn I fun Al W I => zo 18 I fun I => zgf (hf := hF) I (fun Al W I => (HF W I.fa.2.2.2.1).out) fun Al V Iv _ hB _ kz => ?_
         rintro _ W ⟨rfl, hb⟩
         refine ⟨_, rfl, kz _ _ hb fun I => ?_⟩
         refine zk [19, 20, 21] I fun I => zo 22 I fun I => d0t I [1] 0 95 v.heap.size (fun Al W I => I.fa.2.2.1.1) (fun Al W I h9 => ⟨fun h => h.2.2 ⟨h9, rfl⟩, True.intro⟩) (fun Al W I => (HD (lk 0 Al 0) w.heap.size p c W (I.wk 0 hpos (by rw [I.adE 0 (by simp)]; exact hge) rfl)).out.mono fun _ _ => d0w) ?_
         rintro Al W ⟨p32, c32⟩ hat_32 I
         refine zk [23, 24, 25, 26] I fun I => a0j I J fun Al W U I => hJ _ _ _ _ _ ⟨U, p32, c32, rfl, rfl, rfl, hat_32⟩ (I.pick [0, 1])
       refine zn I fun Al W I => zo 6 I fun I => zn I fun Al W I => zo 18 I fun I => zgf (hf := hF) I (fun Al W I => (HF W I.fa.2.2.2.1).out) fun Al V Iv _ hB _ kz => ?_
       rintro _ W ⟨rfl, hb⟩
       refine ⟨_, rfl, kz _ _ hb fun I => ?_⟩
       refine zk [19, 20, 21] I fun I => zo 22 I fun I => d0t I [1] 0 95 v.heap.size (fun Al W I => I.fa.2.2.1.1) (fun Al W I h9 => ⟨fun h => h.2.2 ⟨h9, rfl⟩, True.intro⟩) (fun Al W I => (HD (lk 0 Al 0) w.heap.size p c W (I.wk 0 hpos (by rw [I.adE 0 (by simp)]; exact hge) rfl)).out.mono fun _ _ => d0w) ?_
       rintro Al W ⟨p32, c32⟩ hat_32 I
       refine zk [23, 24, 25, 26] I fun I => a0j I J fun Al W U I => hJ _ _ _ _ _ ⟨U, p32, c32, rfl, rfl, rfl, hat_32⟩ (I.pick [0, 1])
     refine zn I fun Al W I => zo2 6 9 I (fun I => ?_) (fun I => ?_)
     · refine zn I fun Al W I => zo 9 I fun I => zx I 19 (fun _ => .string x) (fun Al W I => (b0e (m := 0) I.fa.2.1.rd c0a rfl)) fun Al W I => zo 18 I fun I => zgf (hf := hF) I (fun Al W I => (HF W I.fa.2.2.2.1).out) fun Al V Iv _ hB _ kz => ?_
       rintro _ W ⟨rfl, hb⟩
       refine ⟨_, rfl, kz _ _ hb fun I => ?_⟩
       refine zk [19, 20, 21] I fun I => zo 22 I fun I => d0t I [1] 0 95 v.heap.size (fun Al W I => I.fa.2.2.1.1) (fun Al W I h9 => ⟨fun h => h.2.2 ⟨h9, rfl⟩, True.intro⟩) (fun Al W I => (HD (lk 0 Al 0) w.heap.size p c W (I.wk 0 hpos (by rw [I.adE 0 (by simp)]; exact hge) rfl)).out.mono fun _ _ => d0w) ?_
       rintro Al W ⟨p32, c32⟩ hat_32 I
       refine zk [23, 24, 25, 26] I fun I => a0j I J fun Al W U I => hJ _ _ _ _ _ ⟨U, p32, c32, rfl, rfl, rfl, hat_32⟩ (I.pick [0, 1])
     refine zx I 19 (fun _ => .string x) (fun Al W I => (b0e (m := 0) I.fa.2.1.rd c0a rfl)) fun Al W I => zo 6 I fun I => zn I fun Al W I => zo 18 I fun I => zgf (hf := hF) I (fun Al W I => (HF W I.fa.2.2.2.1).out) fun Al V Iv _ hB _ kz => ?_
     rintro _ W ⟨rfl, hb⟩
     refine ⟨_, rfl, kz _ _ hb fun I => ?_⟩
     refine zk [19, 20, 21] I fun I => zo 22 I fun I => d0t I [1] 0 95 v.heap.size (fun Al W I => I.fa.2.2.1.1) (fun Al W I h9 => ⟨fun h => h.2.2 ⟨h9, rfl⟩, True.intro⟩) (fun Al W I => (HD (lk 0 Al 0) w.heap.size p c W (I.wk 0 hpos (by rw [I.adE 0 (by simp)]; exact hge) rfl)).out.mono fun _ _ => d0w) ?_
     rintro Al W ⟨p32, c32⟩ hat_32 I
     refine zk [23, 24, 25, 26] I fun I => a0j I J fun Al W U I => hJ _ _ _ _ _ ⟨U, p32, c32, rfl, rfl, rfl, hat_32⟩ (I.pick [0, 1])
   refine zn I fun Al W I => zo3 6 9 12 I (fun I => ?_) (fun I => ?_) (fun I => ?_)
   · refine zn I fun Al W I => l0o I [(9, .v (.string x)), (12, .v (.string y))] (fun Al W I => ?_) (fun KL15 => ?_)
     · refine zo 18 I fun I => zgf (hf := hF) I (fun Al W I => (HF W I.fa.2.2.2.1).out) fun Al V Iv _ hB _ kz => ?_
       rintro _ W ⟨rfl, hb⟩
       refine ⟨_, rfl, kz _ _ hb fun I => ?_⟩
       refine zk [19, 20, 21] I fun I => zo 22 I fun I => d0t I [1] 0 95 v.heap.size (fun Al W I => I.fa.2.2.1.1) (fun Al W I h9 => ⟨fun h => h.2.2 ⟨h9, rfl⟩, True.intro⟩) (fun Al W I => (HD (lk 0 Al 0) w.heap.size p c W (I.wk 0 hpos (by rw [I.adE 0 (by simp)]; exact hge) rfl)).out.mono fun _ _ => d0w) ?_
       rintro Al W ⟨p32, c32⟩ hat_32 I
       refine zk [23, 24, 25, 26] I fun I => a0j I J fun Al W U I => hJ _ _ _ _ _ ⟨U, p32, c32, rfl, rfl, rfl, hat_32⟩ (I.pick [0, 1])
     refine l0o I [(9, .v (.string x))] (fun Al W I => ?_) (fun KL13 => ?_)
     · refine zo 12 I fun I => zx I 22 (fun _ => .string y) (fun Al W I => (b0e (m := 1) I.fa.2.1.rd c0a rfl)) fun Al W I => zuse KL15 I
     refine l0o I [(12, .v (.string y))] (fun Al W I => ?_) (fun KL14 => ?_)
     · refine zo 9 I fun I => zx I 19 (fun _ => .string x) (fun Al W I => (b0e (m := 0) I.fa.2.1.rd c0a rfl)) fun Al W I => zuse KL15 I
     refine zo2 9 12 I (fun I => ?_) (fun I => ?_)
     · refine zx I 19 (fun _ => .string x) (fun Al W I => (b0e (m := 0) I.fa.2.1.rd c0a rfl)) fun Al W I => zuse KL13 I
     refine zx I 22 (fun _ => .string y) (fun Al W I => (b0e (m := 1) I.fa.2.1.rd c0a rfl)) fun Al W I => zuse KL14 I
   · refine zx I 19 (fun _ => .string x) (fun Al W I => (b0e (m := 0) I.fa.2.1.rd c0a rfl)) fun Al W I => zo2 6 12 I (fun I => ?_) (fun I => ?_)
     · refine zn I fun Al W I => zo 12 I fun I => zx I 22 (fun _ => .string y) (fun Al W I => (b0e (m := 1) I.fa.2.1.rd c0a rfl)) fun Al W I => zo 18 I fun I => zgf (hf := hF) I (fun Al W I => (HF W I.fa.2.2.2.1).out) fun Al V Iv _ hB _ kz => ?_
       rintro _ W ⟨rfl, hb⟩
       refine ⟨_, rfl, kz _ _ hb fun I => ?_⟩
       refine zk [19, 20, 21] I fun I => zo 22 I fun I => d0t I [1] 0 95 v.heap.size (fun Al W I => I.fa.2.2.1.1) (fun Al W I h9 => ⟨fun h => h.2.2 ⟨h9, rfl⟩, True.intro⟩) (fun Al W I => (HD (lk 0 Al 0) w.heap.size p c W (I.wk 0 hpos (by rw [I.adE 0 (by simp)]; exact hge) rfl)).out.mono fun _ _ => d0w) ?_
       rintro Al W ⟨p32, c32⟩ hat_32 I
       refine zk [23, 24, 25, 26] I fun I => a0j I J fun Al W U I => hJ _ _ _ _ _ ⟨U, p32, c32, rfl, rfl, rfl, hat_32⟩ (I.pick [0, 1])
     refine zx I 22 (fun _ => .string y) (fun Al W I => (b0e (m := 1) I.fa.2.1.rd c0a rfl)) fun Al W I => zo 6 I fun I => zn I fun Al W I => zo 18 I fun I => zgf (hf := hF) I (fun Al W I => (HF W I.fa.2.2.2.1).out) fun Al V Iv _ hB _ kz => ?_
     rintro _ W ⟨rfl, hb⟩
     refine ⟨_, rfl, kz _ _ hb fun I => ?_⟩
     refine zk [19, 20, 21] I fun I => zo 22 I fun I => d0t I [1] 0 95 v.heap.size (fun Al W I => I.fa.2.2.1.1) (fun Al W I h9 => ⟨fun h => h.2.2 ⟨h9, rfl⟩, True.intro⟩) (fun Al W I => (HD (lk 0 Al 0) w.heap.size p c W (I.wk 0 hpos (by rw [I.adE 0 (by simp)]; exact hge) rfl)).out.mono fun _ _ => d0w) ?_
     rintro Al W ⟨p32, c32⟩ hat_32 I
     refine zk [23, 24, 25, 26] I fun I => a0j I J fun Al W U I => hJ _ _ _ _ _ ⟨U, p32, c32, rfl, rfl, rfl, hat_32⟩ (I.pick [0, 1])
   refine zx I 22 (fun _ => .string y) (fun Al W I => (b0e (m := 1) I.fa.2.1.rd c0a rfl)) fun Al W I => zo2 6 9 I (fun I => ?_) (fun I => ?_)
   · refine zn I fun Al W I => zo 9 I fun I => zx I 19 (fun _ => .string x) (fun Al W I => (b0e (m := 0) I.fa.2.1.rd c0a rfl)) fun Al W I => zo 18 I fun I => zgf (hf := hF) I (fun Al W I => (HF W I.fa.2.2.2.1).out) fun Al V Iv _ hB _ kz => ?_
     rintro _ W ⟨rfl, hb⟩
     refine ⟨_, rfl, kz _ _ hb fun I => ?_⟩
     refine zk [19, 20, 21] I fun I => zo 22 I fun I => d0t I [1] 0 95 v.heap.size (fun Al W I => I.fa.2.2.1.1) (fun Al W I h9 => ⟨fun h => h.2.2 ⟨h9, rfl⟩, True.intro⟩) (fun Al W I => (HD (lk 0 Al 0) w.heap.size p c W (I.wk 0 hpos (by rw [I.adE 0 (by simp)]; exact hge) rfl)).out.mono fun _ _ => d0w) ?_
     rintro Al W ⟨p32, c32⟩ hat_32 I
     refine zk [23, 24, 25, 26] I fun I => a0j I J fun Al W U I => hJ _ _ _ _ _ ⟨U, p32, c32, rfl, rfl, rfl, hat_32⟩ (I.pick [0, 1])
   refine zx I 19 (fun _ => .string x) (fun Al W I => (b0e (m := 0) I.fa.2.1.rd c0a rfl)) fun Al W I => zo 6 I fun I => zn I fun Al W I => zo 18 I fun I => zgf (hf := hF) I (fun Al W I => (HF W I.fa.2.2.2.1).out) fun Al V Iv _ hB _ kz => ?_
   rintro _ W ⟨rfl, hb⟩
   refine ⟨_, rfl, kz _ _ hb fun I => ?_⟩
   refine zk [19, 20, 21] I fun I => zo 22 I fun I => d0t I [1] 0 95 v.heap.size (fun Al W I => I.fa.2.2.1.1) (fun Al W I h9 => ⟨fun h => h.2.2 ⟨h9, rfl⟩, True.intro⟩) (fun Al W I => (HD (lk 0 Al 0) w.heap.size p c W (I.wk 0 hpos (by rw [I.adE 0 (by simp)]; exact hge) rfl)).out.mono fun _ _ => d0w) ?_
   rintro Al W ⟨p32, c32⟩ hat_32 I
   refine zk [23, 24, 25, 26] I fun I => a0j I J fun Al W U I => hJ _ _ _ _ _ ⟨U, p32, c32, rfl, rfl, rfl, hat_32⟩ (I.pick [0, 1])
 rintro _ _ _ ⟨U1, p32, c32, rfl, rfl, rfl, hat_32⟩ Al W I
 exact zret I fun Al W I => ⟨p32, c32, rfl, I.wkE hge hpos rfl, WkTo.of2 I h0w hcb (I.box 1 tyF2 #[.func (.func F) #[] #[]]) I.fa.2.1 hat_32⟩
theorem l0z (F : FuncId) (w : World) : Calls Tryz.prog 78 #[.func (.func F) #[] #[]] w
 fun en w' => ∃ b, en = .returned (.agg #[.int .i64 2, .func (.func 145) #[] #[.pointer (some ⟨b, 0, none⟩)]]) ∧ w.heap.size ≤ b ∧ Bt w' b tyF2 #[.func (.func F) #[] #[]] ∧ Below w.heap.size w w' := by
 have I := Inv.start w [] True.intro
 refine a0c [.v (.func (.func F) #[] #[])] I Tryz.func78 ?_
 refine zbx I 1 34 #[.func (.func F) #[] #[]] fun Al W b hge_b I => zret I fun Al W I => ⟨b, rfl, hge_b, I.fa.1, I.below⟩
def opEs (b1 b2 b3 b4 : Nat) : Array MapEntry := #[⟨.int .i64 1, .agg #[.int .i64 0, .func (.func 76) #[] #[]], 0⟩, ⟨.int .i64 2, .agg #[.int .i64 0, .func (.func 77) #[] #[]], 1⟩, ⟨.int .i64 3, .agg #[.int .i64 2, .func (.func 145) #[] #[.pointer (some ⟨b1, 0, none⟩)]], 2⟩, ⟨.int .i64 4, .agg #[.int .i64 2, .func (.func 145) #[] #[.pointer (some ⟨b2, 0, none⟩)]], 3⟩, ⟨.int .i64 5, .agg #[.int .i64 2, .func (.func 145) #[] #[.pointer (some ⟨b3, 0, none⟩)]], 4⟩, ⟨.int .i64 6, .agg #[.int .i64 2, .func (.func 145) #[] #[.pointer (some ⟨b4, 0, none⟩)]], 5⟩, ⟨.int .i64 7, .agg #[.int .i64 1, .func (.func 82) #[] #[]], 6⟩, ⟨.int .i64 8, .agg #[.int .i64 3, .func (.func 86) #[] #[]], 7⟩, ⟨.int .i64 9, .agg #[.int .i64 1, .func (.func 88) #[] #[]], 8⟩, ⟨.int .i64 10, .agg #[.int .i64 2, .func (.func 90) #[] #[]], 9⟩, ⟨.int .i64 11, .agg #[.int .i64 1, .func (.func 91) #[] #[]], 10⟩, ⟨.int .i64 12, .agg #[.int .i64 1, .func (.func 92) #[] #[]], 11⟩, ⟨.int .i64 13, .agg #[.int .i64 0, .func (.func 93) #[] #[]], 12⟩, ⟨.int .i64 14, .agg #[.int .i64 0, .func (.func 94) #[] #[]], 13⟩, ⟨.int .i64 15, .agg #[.int .i64 0, .func (.func 95) #[] #[]], 14⟩, ⟨.int .i64 16, .agg #[.int .i64 0, .func (.func 96) #[] #[]], 15⟩]
abbrev r1c : TypeId := 154
theorem e0p : Tryz.prog.underlying r1c = some (.map 3 90) := by kernel_rfl
theorem e0g (k n : Int) (fn : Fn) (caps : Nat → Nat → Nat → Nat → Array Value) (hf : ∀ b1 b2 b3 b4, ∃ i, Instr.findNow (.int .i64) (.int .i64 k) (opEs b1 b2 b3 b4).toList 0 = some (some (i, .agg #[.int .i64 n, .func fn #[] (caps b1 b2 b3 b4)]))) (w : World) : Calls Tryz.prog 40 #[.int .i64 k] w
 fun en w' => ∃ b1 b2 b3 b4, en = .returned (.tuple #[.agg #[.int .i64 n, .func fn #[] (caps b1 b2 b3 b4)], .bool true]) ∧ w.heap.size ≤ b1 ∧ Bt w' b1 tyF2 #[.func (.func 11) #[] #[]] ∧ w.heap.size ≤ b2 ∧ Bt w' b2 tyF2 #[.func (.func 79) #[] #[]] ∧ w.heap.size ≤ b3 ∧ Bt w' b3 tyF2 #[.func (.func 80) #[] #[]] ∧ w.heap.size ≤ b4 ∧ Bt w' b4 tyF2 #[.func (.func 81) #[] #[]] ∧ Below w.heap.size w w' := by
 have I := Inv.start w [] True.intro
 refine a0c [.v (.int .i64 k)] I Tryz.func40 ?_
 refine zmkm I 154 fun Al W m7_b m7_ge I => zins I e0p Tryz.underlying3 1 (.agg #[vI 0, .func (.func 76) #[] #[]]) m7_ge (fun Al W I => True.intro) fun Al W I => zins I e0p Tryz.underlying3 2 (.agg #[vI 0, .func (.func 77) #[] #[]]) m7_ge (fun Al W I => True.intro) fun Al W I => zg I (fun Al W I => (l0z 11 W)) fun Al V Iv hzV hB _ kz => ?_
 rintro _ W ⟨b1, rfl, hge1, o1, hb⟩
 have hg1 := Nat.le_trans hzV hge1
 refine ⟨_, rfl, kz _ _ hb fun I => ?_⟩
 have I := I.add (btF b1 tyF2 #[.func (.func 11) #[] #[]]) o1 (fun a ha e => by have h1 := Iv.lt a (hB _ a ha); have h2 : b1 = a := e; have h3 := hge1; omega)
 have I := I.rot1
 refine zins I e0p Tryz.underlying3 3 (.agg #[vI 2, .func (.func 145) #[] #[.pointer (some ⟨b1, 0, none⟩)]]) m7_ge (fun Al W I => ⟨a0r I.fa.1 I.fa.2.1, True.intro⟩) fun Al W I => zg I (fun Al W I => (l0z 79 W)) fun Al V Iv hzV hB _ kz => ?_
 rintro _ W ⟨b2, rfl, hge2, o2, hb⟩
 have hg2 := Nat.le_trans hzV hge2
 refine ⟨_, rfl, kz _ _ hb fun I => ?_⟩
 have I := I.add (btF b2 tyF2 #[.func (.func 79) #[] #[]]) o2 (fun a ha e => by have h1 := Iv.lt a (hB _ a ha); have h2 : b2 = a := e; have h3 := hge2; omega)
 have I := I.rot1
 refine zins I e0p Tryz.underlying3 4 (.agg #[vI 2, .func (.func 145) #[] #[.pointer (some ⟨b2, 0, none⟩)]]) m7_ge (fun Al W I => ⟨a0r I.fa.1 I.fa.2.1, a0r I.fa.1 I.fa.2.2.1, True.intro⟩) fun Al W I => zg I (fun Al W I => (l0z 80 W)) fun Al V Iv hzV hB _ kz => ?_
 rintro _ W ⟨b3, rfl, hge3, o3, hb⟩
 have hg3 := Nat.le_trans hzV hge3
 refine ⟨_, rfl, kz _ _ hb fun I => ?_⟩
 have I := I.add (btF b3 tyF2 #[.func (.func 80) #[] #[]]) o3 (fun a ha e => by have h1 := Iv.lt a (hB _ a ha); have h2 : b3 = a := e; have h3 := hge3; omega)
 have I := I.rot1
 refine zins I e0p Tryz.underlying3 5 (.agg #[vI 2, .func (.func 145) #[] #[.pointer (some ⟨b3, 0, none⟩)]]) m7_ge (fun Al W I => ⟨a0r I.fa.1 I.fa.2.1, a0r I.fa.1 I.fa.2.2.1, a0r I.fa.1 I.fa.2.2.2.1, True.intro⟩) fun Al W I => zg I (fun Al W I => (l0z 81 W)) fun Al V Iv hzV hB _ kz => ?_
 rintro _ W ⟨b4, rfl, hge4, o4, hb⟩
 have hg4 := Nat.le_trans hzV hge4
 refine ⟨_, rfl, kz _ _ hb fun I => ?_⟩
 have I := I.add (btF b4 tyF2 #[.func (.func 81) #[] #[]]) o4 (fun a ha e => by have h1 := Iv.lt a (hB _ a ha); have h2 : b4 = a := e; have h3 := hge4; omega)
 have I := I.rot1
 refine zins I e0p Tryz.underlying3 6 (.agg #[vI 2, .func (.func 145) #[] #[.pointer (some ⟨b4, 0, none⟩)]]) m7_ge (fun Al W I => ⟨a0r I.fa.1 I.fa.2.1, a0r I.fa.1 I.fa.2.2.1, a0r I.fa.1 I.fa.2.2.2.1, a0r I.fa.1 I.fa.2.2.2.2.1, True.intro⟩) fun Al W I => zins I e0p Tryz.underlying3 7 (.agg #[vI 1, .func (.func 82) #[] #[]]) m7_ge (fun Al W I => ⟨a0r I.fa.1 I.fa.2.1, a0r I.fa.1 I.fa.2.2.1, a0r I.fa.1 I.fa.2.2.2.1, a0r I.fa.1 I.fa.2.2.2.2.1, True.intro⟩) fun Al W I => zins I e0p Tryz.underlying3 8 (.agg #[vI 3, .func (.func 86) #[] #[]]) m7_ge (fun Al W I => ⟨a0r I.fa.1 I.fa.2.1, a0r I.fa.1 I.fa.2.2.1, a0r I.fa.1 I.fa.2.2.2.1, a0r I.fa.1 I.fa.2.2.2.2.1, True.intro⟩) fun Al W I => zins I e0p Tryz.underlying3 9 (.agg #[vI 1, .func (.func 88) #[] #[]]) m7_ge (fun Al W I => ⟨a0r I.fa.1 I.fa.2.1, a0r I.fa.1 I.fa.2.2.1, a0r I.fa.1 I.fa.2.2.2.1, a0r I.fa.1 I.fa.2.2.2.2.1, True.intro⟩) fun Al W I => zins I e0p Tryz.underlying3 10 (.agg #[vI 2, .func (.func 90) #[] #[]]) m7_ge (fun Al W I => ⟨a0r I.fa.1 I.fa.2.1, a0r I.fa.1 I.fa.2.2.1, a0r I.fa.1 I.fa.2.2.2.1, a0r I.fa.1 I.fa.2.2.2.2.1, True.intro⟩) fun Al W I => zins I e0p Tryz.underlying3 11 (.agg #[vI 1, .func (.func 91) #[] #[]]) m7_ge (fun Al W I => ⟨a0r I.fa.1 I.fa.2.1, a0r I.fa.1 I.fa.2.2.1, a0r I.fa.1 I.fa.2.2.2.1, a0r I.fa.1 I.fa.2.2.2.2.1, True.intro⟩) fun Al W I => zins I e0p Tryz.underlying3 12 (.agg #[vI 1, .func (.func 92) #[] #[]]) m7_ge (fun Al W I => ⟨a0r I.fa.1 I.fa.2.1, a0r I.fa.1 I.fa.2.2.1, a0r I.fa.1 I.fa.2.2.2.1, a0r I.fa.1 I.fa.2.2.2.2.1, True.intro⟩) fun Al W I => zins I e0p Tryz.underlying3 13 (.agg #[vI 0, .func (.func 93) #[] #[]]) m7_ge (fun Al W I => ⟨a0r I.fa.1 I.fa.2.1, a0r I.fa.1 I.fa.2.2.1, a0r I.fa.1 I.fa.2.2.2.1, a0r I.fa.1 I.fa.2.2.2.2.1, True.intro⟩) fun Al W I => zins I e0p Tryz.underlying3 14 (.agg #[vI 0, .func (.func 94) #[] #[]]) m7_ge (fun Al W I => ⟨a0r I.fa.1 I.fa.2.1, a0r I.fa.1 I.fa.2.2.1, a0r I.fa.1 I.fa.2.2.2.1, a0r I.fa.1 I.fa.2.2.2.2.1, True.intro⟩) fun Al W I => zins I e0p Tryz.underlying3 15 (.agg #[vI 0, .func (.func 95) #[] #[]]) m7_ge (fun Al W I => ⟨a0r I.fa.1 I.fa.2.1, a0r I.fa.1 I.fa.2.2.1, a0r I.fa.1 I.fa.2.2.2.1, a0r I.fa.1 I.fa.2.2.2.2.1, True.intro⟩) fun Al W I => zins I e0p Tryz.underlying3 16 (.agg #[vI 0, .func (.func 96) #[] #[]]) m7_ge (fun Al W I => ⟨a0r I.fa.1 I.fa.2.1, a0r I.fa.1 I.fa.2.2.1, a0r I.fa.1 I.fa.2.2.2.1, a0r I.fa.1 I.fa.2.2.2.2.1, True.intro⟩) fun Al W I => zx I 26 (fun _ => .tuple #[.agg #[vI n, .func fn #[] (caps b1 b2 b3 b4)], .bool true]) (fun Al W I => (p1a e0p Tryz.underlying3 (es := opEs b1 b2 b3 b4) (clock := 16) I.fa.1 k (hf b1 b2 b3 b4))) fun Al W I => zret I fun Al W I => ⟨b1, b2, b3, b4, rfl, hg1, I.fa.2.2.2.2.1, hg2, I.fa.2.2.2.1, hg3, I.fa.2.2.1, hg4, I.fa.2.1, I.below⟩
abbrev stV (f a g r : Int) (p : OA) (n c : Nat) : Value := .agg #[.int .i64 f, .int .i64 a, .int .i64 g, .int .i64 r, .slice p n c]
theorem h0y (f a g r : Int) (p : OA) (n c : Nat) (vs : List Value) (w : World) (hr : RdV w p vs) (hn : n = vs.length) (hl : vs.length ≤ 4000000000) (h1 : vs.all (·.oneCell') = true) :
 Calls Tryz.prog 17 #[stV f a g r p n c] w fun en w' => ∃ q d, en = .returned (stV f a g r q n d) ∧ OwnV w' w.heap.size 9 q d vs ∧ Below w.heap.size w w' := by
 have HC := fun W h => lHd (p0c p n c vs W h hn hl h1)
 have I := Inv.start w [rdvF p vs] ⟨hr, True.intro⟩
 refine a0c [.v (.agg #[.int .i64 f, .int .i64 a, .int .i64 g, .int .i64 r, .slice p n c])] I Tryz.func17 ?_
 refine zg I (fun Al W I => (HC W I.fa.1).out) fun Al V Iv hzV hB _ kz => ?_
 rintro _ W ⟨q5, d5, rfl, o5, hb⟩
 refine ⟨_, rfl, kz _ _ hb fun I => ?_⟩
 have I := I.ownv o5
 exact zret I fun Al W I => ⟨q5, d5, rfl, I.fa.1, I.below⟩
structure St where
 f : Int
 a : Int
 g : Int
 r : Int
 vs : List Value
def g0r (need : Nat) (s : St) (fl er : Int) (us : List Value) : St × Int :=
 if s.vs.length < need then (s, 5) else if er ≠ 0 then (s, er) else if bits .and .i64 fl s.r ≠ 0 then ({s with g := bits .or .i64 s.g fl}, 4) else ({s with g := bits .or .i64 s.g fl, vs := us}, 0)
def l0m (w : World) (p : OA) (c : Nat) (R : St × Int) (en : Ending) (w' : World) : Prop :=
 (R.2 = 0 → ∃ p' c', en = .returned (.tuple #[stV R.1.f R.1.a R.1.g R.1.r p' R.1.vs.length c', .int .i64 R.2]) ∧ OwnV w' w.heap.size 9 p' c' R.1.vs) ∧ (R.2 ≠ 0 → en = .returned (.tuple #[stV R.1.f R.1.a R.1.g R.1.r p R.1.vs.length c, .int .i64 R.2])) ∧ Below w.heap.size w w'
abbrev opV (d n : Int) (t : ByteArray) : Value := .agg #[.int .i64 d, .int .i64 n, .string t]
theorem l0c {need : Nat} {s : St} {fl er : Int} {us : List Value} (h : s.vs.length < need) : g0r need s fl er us = (s, 5) := if_pos h
theorem n0p {need : Nat} {s : St} {fl er : Int} {us : List Value} (h : ¬ s.vs.length < need) (h2 : er ≠ 0) : g0r need s fl er us = (s, er) := by unfold g0r; rw [if_neg h, if_pos h2]
theorem l0d {need : Nat} {s : St} {fl er : Int} {us : List Value} (h : ¬ s.vs.length < need) (h2 : er = 0) (h3 : bits .and .i64 fl s.r ≠ 0) : g0r need s fl er us = ({s with g := bits .or .i64 s.g fl}, 4) := by unfold g0r; rw [if_neg h, if_neg (fun k => k h2), if_pos h3]
theorem h0z {need : Nat} {s : St} {fl er : Int} {us : List Value} (h : ¬ s.vs.length < need) (h2 : er = 0) (h3 : bits .and .i64 fl s.r = 0) : g0r need s fl er us = ({s with g := bits .or .i64 s.g fl, vs := us}, 0) := by unfold g0r; rw [if_neg h, if_neg (fun k => k h2), if_neg (fun k => k h3)]
theorem n1m (w : World) : Calls Tryz.prog 40 #[.int .i64 1] w fun en w' => en = .returned (.tuple #[.agg #[.int .i64 0, .func (.func 76) #[] #[]], .bool true]) ∧ Below w.heap.size w w' :=
 (e0g 1 0 (.func 76) (fun _ _ _ _ => #[]) (fun _ _ _ _ => ⟨0, by kernel_rfl⟩) w).mono fun _ _ ⟨_, _, _, _, h, h1⟩ => ⟨h, h1.2.2.2.2.2.2.2.2⟩
theorem i1v (w : World) : Calls Tryz.prog 40 #[.int .i64 11] w fun en w' => en = .returned (.tuple #[.agg #[.int .i64 1, .func (.func 91) #[] #[]], .bool true]) ∧ Below w.heap.size w w' :=
 (e0g 11 1 (.func 91) (fun _ _ _ _ => #[]) (fun _ _ _ _ => ⟨10, by kernel_rfl⟩) w).mono fun _ _ ⟨_, _, _, _, h, h1⟩ => ⟨h, h1.2.2.2.2.2.2.2.2⟩
def n1n (F : FuncId) (w : World) (en : Ending) (w' : World) : Prop := ∃ b, en = .returned (.tuple #[.agg #[.int .i64 2, .func (.func 145) #[] #[.pointer (some ⟨b, 0, none⟩)]], .bool true]) ∧ w.heap.size ≤ b ∧ Bt w' b tyF2 #[.func (.func F) #[] #[]] ∧ Below w.heap.size w w'
theorem q1c (w : World) : Calls Tryz.prog 40 #[.int .i64 3] w (n1n 11 w) :=
 (e0g 3 2 (.func 145) (fun b _ _ _ => #[.pointer (some ⟨b, 0, none⟩)]) (fun _ _ _ _ => ⟨2, by kernel_rfl⟩) w).mono fun _ _ ⟨b, _, _, _, h, h1, h2, _, _, _, _, _, _, h3⟩ => ⟨b, h, h1, h2, h3⟩
theorem q1d (w : World) : Calls Tryz.prog 40 #[.int .i64 5] w (n1n 80 w) :=
 (e0g 5 2 (.func 145) (fun _ _ b _ => #[.pointer (some ⟨b, 0, none⟩)]) (fun _ _ _ _ => ⟨4, by kernel_rfl⟩) w).mono fun _ _ ⟨_, _, b, _, h, _, _, _, _, h1, h2, _, _, h3⟩ => ⟨b, h, h1, h2, h3⟩
theorem e1t (s : St) (n : Int) (t : ByteArray) (p : OA) (c : Nat) (w : World) (hT : TabW w) (hr : RdV w p s.vs) (hl : s.vs.length ≤ 16) (h1 : s.vs.all (·.oneCell') = true) :
 Calls Tryz.prog 18 #[stV s.f s.a s.g s.r p s.vs.length c, opV 1 n t] w (l0m w p c (g0r 0 s (r0j (a0o s.f s.a (a0b t)) s.vs.length ((flP' s.f s.a (a0b t) : Nat) : Int)) (d0g (a0o s.f s.a (a0b t)) s.vs.length) (if d0g (a0o s.f s.a (a0b t)) s.vs.length = 0 then s.vs ++ [.string (outP s.f s.a (a0b t))] else s.vs))) := by
 obtain ⟨f, a, g, r, vs⟩ := s
 dsimp only at *
 have HL := fun p c W h => lHd (h0y f a g r p vs.length c vs W h rfl (by omega) h1)
 unfold l0m
 have hpos : 0 < w.heap.size := hT.2
 have HX := fun bw B p c W h h2 => lHd (i1t bw B f a g r p c vs 1 n t W h hl h2)
 generalize r0j (a0o f a (a0b t)) vs.length ((flP' f a (a0b t) : Nat) : Int) = fl at *
 generalize d0g (a0o f a (a0b t)) vs.length = er at *
 generalize (if er = 0 then vs ++ [Value.string (outP f a (a0b t))] else vs) = us at *
 have HO := fun W => lHd (n1m W)
 have I := Inv.start w [tabF, rdvF p vs] ⟨hT, hr, True.intro⟩
 refine a0c [.v (.agg #[.int .i64 f, .int .i64 a, .int .i64 g, .int .i64 r, .slice p vs.length c]), .v (.agg #[.int .i64 1, .int .i64 n, .string t])] I Tryz.func18 ?_
 refine zq I (fun Al W I => (HO W).out) fun Al W I => ?_
 rcases bTF (decide ((vs.length : Int) < 0)) with h25 | h25
 · refine zb I 25 (decide ((vs.length : Int) < 0)) (true) (h25) fun Al W I => zret I (v := fun Al => .tuple #[.agg #[vI f, vI a, vI g, vI r, .slice p vs.length c], vI 5]) fun Al W I => ?_
   (rw [l0c (s := ⟨f, a, g, r, vs⟩) (fl := fl) (er := er) (by have := oTr h25; show vs.length < _; omega)]; exact ⟨fun h => absurd h (show ¬ (5 : Int) = 0 by decide), fun _ => rfl, I.below⟩)
 refine zb I 25 (decide ((vs.length : Int) < 0)) (false) (h25) fun Al W I => zg I (fun Al W I => (HL p c W I.fa.2.1).out) fun Al V Iv hzV hB _ kz => ?_
 rintro _ W ⟨q28, d28, rfl, o28, hb⟩
 have hq28 := fun (h : q28.isSome = true) => (o28.blk_lt h).1
 have hrq := fun (h : 0 < vs.length) => Iv.fa.2.1.lt h
 refine ⟨_, rfl, kz _ _ hb fun I => ?_⟩
 have I := I.ownv o28
 refine d0t I [0, 1] 4 95 0 (fun Al W I => Nat.zero_le _) (fun Al W I h9 => ⟨fun e => by have h1 := (I.fa.1.blk_lt h9).1; have e : 0 = _ := e; omega, fun h => by have h2 := hrq h.1; have h3 := hq28 h9; have h4 : blk p = blk q28 := h.2; omega, True.intro⟩) (fun Al W I => (HX (lk 0 Al 4) w.heap.size q28 d28 W I.fa.2.1 (I.wk 4 hpos (I.geB 4) rfl)).out.mono fun _ _ => d0w) ?_
 rintro Al W ⟨p36, c36⟩ hat_36 I
 rcases bTF (er != 0) with h40 | h40
 · refine zb I 40 (er != 0) (true) (h40) fun Al W I => zret I (v := fun Al => .tuple #[.agg #[vI f, vI a, vI g, vI r, .slice p vs.length c], vI er]) fun Al W I => ?_
   (rw [n0p (s := ⟨f, a, g, r, vs⟩) (fl := fl) (er := er) (by have := oFa h25; show ¬ vs.length < _; omega) (bne_iff_ne.1 h40)]; exact ⟨fun h => absurd h (bne_iff_ne.1 h40), fun _ => rfl, I.below⟩)
 refine zb I 40 (er != 0) (false) (h40) fun Al W I => zbin I 46 _ (fun _ _ _ _ _ => h0d .i64 (fl) (r) ((bits .and .i64 fl r)) (rfl)) fun Al W I => ?_
 rcases bTF ((bits .and .i64 fl r) != 0) with h47 | h47
 · refine zb I 47 ((bits .and .i64 fl r) != 0) (true) (h47) fun Al W I => zbin I 51 _ (fun _ _ _ _ _ => l0h .i64 (g) (fl) ((bits .or .i64 g fl)) (rfl)) fun Al W I => zret I (v := fun Al => .tuple #[.agg #[vI f, vI a, vI (bits .or .i64 g fl), vI r, .slice p vs.length c], vI 4]) fun Al W I => ?_
   (rw [l0d (s := ⟨f, a, g, r, vs⟩) (fl := fl) (er := er) (by have := oFa h25; show ¬ vs.length < _; omega) (bne_eq_false_iff_eq.1 h40) (bne_iff_ne.1 h47)]; exact ⟨fun h => absurd h (show ¬ (4 : Int) = 0 by decide), fun _ => rfl, I.below⟩)
 refine zb I 47 ((bits .and .i64 fl r) != 0) (false) (h47) fun Al W I => zbin I 60 _ (fun _ _ _ _ _ => l0h .i64 (g) (fl) ((bits .or .i64 g fl)) (rfl)) fun Al W I => zret I (v := fun Al => .tuple #[.agg #[vI f, vI a, vI (bits .or .i64 g fl), vI r, .slice p36 us.length c36], vI 0]) fun Al W I => ?_
 (rw [h0z (s := ⟨f, a, g, r, vs⟩) (fl := fl) (er := er) (by have := oFa h25; show ¬ vs.length < _; omega) (bne_eq_false_iff_eq.1 h40) (bne_eq_false_iff_eq.1 h47)]; exact ⟨fun _ => ⟨p36, c36, rfl, I.fa.1⟩, fun h => absurd rfl h, I.below⟩)
theorem z0l (s : St) (n : Int) (t : ByteArray) (S : ByteArray) (p : OA) (c : Nat) (w : World) (hT : TabW w) (hr : RdV w p s.vs) (hl : s.vs.length ≤ 16) (h1 : s.vs.all (·.oneCell') = true) (hS : 1 ≤ s.vs.length → s.vs[s.vs.length - 1]? = some (.string S)) :
 Calls Tryz.prog 18 #[stV s.f s.a s.g s.r p s.vs.length c, opV 11 n t] w (l0m w p c (g0r 1 s 0 (d0g 0 s.vs.length) (if d0g 0 s.vs.length = 0 then s.vs ++ [.string S] else s.vs))) := by
 obtain ⟨f, a, g, r, vs⟩ := s
 dsimp only at *
 have HL := fun p c W h => lHd (h0y f a g r p vs.length c vs W h rfl (by omega) h1)
 unfold l0m
 have hpos : 0 < w.heap.size := hT.2
 have HX := fun bw B p c W (h : 1 ≤ vs.length) h2 => lHd (e1s bw B (vs.length - 1) f a g r p c vs 11 n t S W hl (by omega) (hS h) h2)
 generalize d0g 0 vs.length = er at *
 generalize (if er = 0 then vs ++ [Value.string S] else vs) = us at *
 have HO := fun W => lHd (i1v W)
 have I := Inv.start w [tabF, rdvF p vs] ⟨hT, hr, True.intro⟩
 refine a0c [.v (.agg #[.int .i64 f, .int .i64 a, .int .i64 g, .int .i64 r, .slice p vs.length c]), .v (.agg #[.int .i64 11, .int .i64 n, .string t])] I Tryz.func18 ?_
 refine zq I (fun Al W I => (HO W).out) fun Al W I => ?_
 rcases bTF (decide ((vs.length : Int) < 1)) with h25 | h25
 · refine zb I 25 (decide ((vs.length : Int) < 1)) (true) (h25) fun Al W I => zret I (v := fun Al => .tuple #[.agg #[vI f, vI a, vI g, vI r, .slice p vs.length c], vI 5]) fun Al W I => ?_
   (rw [l0c (s := ⟨f, a, g, r, vs⟩) (fl := 0) (er := er) (by have := oTr h25; show vs.length < _; omega)]; exact ⟨fun h => absurd h (show ¬ (5 : Int) = 0 by decide), fun _ => rfl, I.below⟩)
 refine zb I 25 (decide ((vs.length : Int) < 1)) (false) (h25) fun Al W I => zg I (fun Al W I => (HL p c W I.fa.2.1).out) fun Al V Iv hzV hB _ kz => ?_
 rintro _ W ⟨q28, d28, rfl, o28, hb⟩
 have hq28 := fun (h : q28.isSome = true) => (o28.blk_lt h).1
 have hrq := fun (h : 0 < vs.length) => Iv.fa.2.1.lt h
 refine ⟨_, rfl, kz _ _ hb fun I => ?_⟩
 have I := I.ownv o28
 refine d0t I [0, 1] 4 95 0 (fun Al W I => Nat.zero_le _) (fun Al W I h9 => ⟨fun e => by have h1 := (I.fa.1.blk_lt h9).1; have e : 0 = _ := e; omega, fun h => by have h2 := hrq h.1; have h3 := hq28 h9; have h4 : blk p = blk q28 := h.2; omega, True.intro⟩) (fun Al W I => (HX (lk 0 Al 4) w.heap.size q28 d28 W (by have := oFa h25; omega) (I.wk 4 hpos (I.geB 4) rfl)).out.mono fun _ _ => d0w) ?_
 rintro Al W ⟨p36, c36⟩ hat_36 I
 rcases bTF (er != 0) with h40 | h40
 · refine zb I 40 (er != 0) (true) (h40) fun Al W I => zret I (v := fun Al => .tuple #[.agg #[vI f, vI a, vI g, vI r, .slice p vs.length c], vI er]) fun Al W I => ?_
   (rw [n0p (s := ⟨f, a, g, r, vs⟩) (fl := 0) (er := er) (by have := oFa h25; show ¬ vs.length < _; omega) (bne_iff_ne.1 h40)]; exact ⟨fun h => absurd h (bne_iff_ne.1 h40), fun _ => rfl, I.below⟩)
 refine zb I 40 (er != 0) (false) (h40) fun Al W I => zbin I 46 _ (fun _ _ _ _ _ => h0d .i64 (0) (r) ((bits .and .i64 0 r)) (rfl)) fun Al W I => ?_
 rcases bTF ((bits .and .i64 0 r) != 0) with h47 | h47
 · refine zb I 47 ((bits .and .i64 0 r) != 0) (true) (h47) fun Al W I => zbin I 51 _ (fun _ _ _ _ _ => l0h .i64 (g) (0) ((bits .or .i64 g 0)) (rfl)) fun Al W I => zret I (v := fun Al => .tuple #[.agg #[vI f, vI a, vI (bits .or .i64 g 0), vI r, .slice p vs.length c], vI 4]) fun Al W I => ?_
   (rw [l0d (s := ⟨f, a, g, r, vs⟩) (fl := 0) (er := er) (by have := oFa h25; show ¬ vs.length < _; omega) (bne_eq_false_iff_eq.1 h40) (bne_iff_ne.1 h47)]; exact ⟨fun h => absurd h (show ¬ (4 : Int) = 0 by decide), fun _ => rfl, I.below⟩)
 refine zb I 47 ((bits .and .i64 0 r) != 0) (false) (h47) fun Al W I => zbin I 60 _ (fun _ _ _ _ _ => l0h .i64 (g) (0) ((bits .or .i64 g 0)) (rfl)) fun Al W I => zret I (v := fun Al => .tuple #[.agg #[vI f, vI a, vI (bits .or .i64 g 0), vI r, .slice p36 us.length c36], vI 0]) fun Al W I => ?_
 (rw [h0z (s := ⟨f, a, g, r, vs⟩) (fl := 0) (er := er) (by have := oFa h25; show ¬ vs.length < _; omega) (bne_eq_false_iff_eq.1 h40) (bne_eq_false_iff_eq.1 h47)]; exact ⟨fun _ => ⟨p36, c36, rfl, I.fa.1⟩, fun h => absurd rfl h, I.below⟩)
theorem x0e (s : St) (d n : Int) (t : ByteArray) (F : FuncId) (hF : ∀ args w, (callFunc F args).run Tryz.prog w = .ok (.enter F args) w) (HO : ∀ W, Hid (Calls Tryz.prog 40 #[.int .i64 d] W (n1n F W))) (x y S : ByteArray) (fl er : Int) (p : OA) (c : Nat) (w : World) (hT : TabW w) (hr : RdV w p s.vs) (hl : s.vs.length ≤ 16) (h1 : s.vs.all (·.oneCell') = true) (hd : 2 ≤ s.vs.length → s.vs.drop (s.vs.length - 2) = [.string x, .string y]) (HF : ∀ W, TabW W → Hid (Calls Tryz.prog F #[.int .i64 s.f, .string x, .string y, .int .i64 s.a] W fun en w' => en = .returned (.tuple #[.string S, .int .i64 fl, .int .i64 er]) ∧ Below W.heap.size W w')) :
 Calls Tryz.prog 18 #[stV s.f s.a s.g s.r p s.vs.length c, opV d n t] w (l0m w p c (g0r 2 s fl er (if er = 0 then s.vs.take (s.vs.length - 2) ++ [.string S] else s.vs.take (s.vs.length - 2)))) := by
 obtain ⟨f, a, g, r, vs⟩ := s
 dsimp only at *
 have HL := fun p c W h => lHd (h0y f a g r p vs.length c vs W h rfl (by omega) h1)
 unfold l0m
 have hpos : 0 < w.heap.size := hT.2
 have HX := fun bw B cb p c W h (h3 : 2 ≤ vs.length) h5 h6 h7 h8 h2 => lHd (i1u F hF bw B (vs.length - 2) cb f a g r p c vs d n t x y S fl er W h hl (by omega) (hd h3) h1 h5 h6 h7 h8 HF h2)
 generalize (if er = 0 then vs.take (vs.length - 2) ++ [Value.string S] else vs.take (vs.length - 2)) = us at *
 have I := Inv.start w [tabF, rdvF p vs] ⟨hT, hr, True.intro⟩
 refine a0c [.v (.agg #[.int .i64 f, .int .i64 a, .int .i64 g, .int .i64 r, .slice p vs.length c]), .v (.agg #[.int .i64 d, .int .i64 n, .string t])] I Tryz.func18 ?_
 refine zg I (fun Al W I => (HO W).out) fun Al V Iv hzV hB _ kz => ?_
 rintro _ W ⟨cb, rfl, hge, o14, hb⟩
 have hgc := Nat.le_trans hzV hge
 refine ⟨_, rfl, kz _ _ hb fun I => ?_⟩
 have I := I.add (btF cb tyF2 #[.func (.func F) #[] #[]]) o14 (fun a ha e => by have h1 := Iv.lt a (hB _ a ha); have h2 : cb = a := e; have h3 := hge; omega)
 rcases bTF (decide ((vs.length : Int) < 2)) with h25 | h25
 · refine zb I 25 (decide ((vs.length : Int) < 2)) (true) (h25) fun Al W I => zret I (v := fun Al => .tuple #[.agg #[vI f, vI a, vI g, vI r, .slice p vs.length c], vI 5]) fun Al W I => ?_
   (rw [l0c (s := ⟨f, a, g, r, vs⟩) (fl := fl) (er := er) (by have := oTr h25; show vs.length < _; omega)]; exact ⟨fun h => absurd h (show ¬ (5 : Int) = 0 by decide), fun _ => rfl, I.below⟩)
 refine zb I 25 (decide ((vs.length : Int) < 2)) (false) (h25) fun Al W I => zg I (fun Al W I => (HL p c W I.fa.2.2.1).out) fun Al V Iv hzV hB _ kz => ?_
 rintro _ W ⟨q28, d28, rfl, o28, hb⟩
 have hq28 := fun (h : q28.isSome = true) => (o28.blk_lt h).1
 have hrq := fun (h : 0 < vs.length) => Iv.fa.2.2.1.lt h
 refine ⟨_, rfl, kz _ _ hb fun I => ?_⟩
 have I := I.ownv o28
 refine d0t I [0, 1, 2] 4 95 0 (fun Al W I => Nat.zero_le _) (fun Al W I h9 => ⟨fun e => OwnS.far (s := 1) I.fa.1 I.fa.2.1 (by kernel_rfl) h9 (Eq.symm e), fun e => by have h1 := (I.fa.1.blk_lt h9).1; have e : 0 = _ := e; omega, fun h => by have h2 := hrq h.1; have h3 := hq28 h9; have h4 : blk p = blk q28 := h.2; omega, True.intro⟩) (fun Al W I => (HX (lk 0 Al 4) w.heap.size cb q28 d28 W I.fa.2.2.1 (by have := oFa h25; omega) I.fa.2.1 (I.neBt 4 I.fa.2.1) (fun hp e => OwnS.far (s := 1) I.fa.1 I.fa.2.1 (by kernel_rfl) hp e) (by omega) (I.wk 4 hpos (I.geB 4) rfl)).out.mono fun _ _ => d0w) ?_
 rintro Al W ⟨p36, c36⟩ hat_36 I
 rcases bTF (er != 0) with h40 | h40
 · refine zb I 40 (er != 0) (true) (h40) fun Al W I => zret I (v := fun Al => .tuple #[.agg #[vI f, vI a, vI g, vI r, .slice p vs.length c], vI er]) fun Al W I => ?_
   (rw [n0p (s := ⟨f, a, g, r, vs⟩) (fl := fl) (er := er) (by have := oFa h25; show ¬ vs.length < _; omega) (bne_iff_ne.1 h40)]; exact ⟨fun h => absurd h (bne_iff_ne.1 h40), fun _ => rfl, I.below⟩)
 refine zb I 40 (er != 0) (false) (h40) fun Al W I => zbin I 46 _ (fun _ _ _ _ _ => h0d .i64 (fl) (r) ((bits .and .i64 fl r)) (rfl)) fun Al W I => ?_
 rcases bTF ((bits .and .i64 fl r) != 0) with h47 | h47
 · refine zb I 47 ((bits .and .i64 fl r) != 0) (true) (h47) fun Al W I => zbin I 51 _ (fun _ _ _ _ _ => l0h .i64 (g) (fl) ((bits .or .i64 g fl)) (rfl)) fun Al W I => zret I (v := fun Al => .tuple #[.agg #[vI f, vI a, vI (bits .or .i64 g fl), vI r, .slice p vs.length c], vI 4]) fun Al W I => ?_
   (rw [l0d (s := ⟨f, a, g, r, vs⟩) (fl := fl) (er := er) (by have := oFa h25; show ¬ vs.length < _; omega) (bne_eq_false_iff_eq.1 h40) (bne_iff_ne.1 h47)]; exact ⟨fun h => absurd h (show ¬ (4 : Int) = 0 by decide), fun _ => rfl, I.below⟩)
 refine zb I 47 ((bits .and .i64 fl r) != 0) (false) (h47) fun Al W I => zbin I 60 _ (fun _ _ _ _ _ => l0h .i64 (g) (fl) ((bits .or .i64 g fl)) (rfl)) fun Al W I => zret I (v := fun Al => .tuple #[.agg #[vI f, vI a, vI (bits .or .i64 g fl), vI r, .slice p36 us.length c36], vI 0]) fun Al W I => ?_
 (rw [h0z (s := ⟨f, a, g, r, vs⟩) (fl := fl) (er := er) (by have := oFa h25; show ¬ vs.length < _; omega) (bne_eq_false_iff_eq.1 h40) (bne_eq_false_iff_eq.1 h47)]; exact ⟨fun _ => ⟨p36, c36, rfl, I.fa.1⟩, fun h => absurd rfl h, I.below⟩)
def sV (xs : List ByteArray) : List Value := xs.map Value.string
theorem c0j (xs : List ByteArray) : (sV xs).length = xs.length := List.length_map ..
theorem h0p {xs : List ByteArray} {i : Nat} {s : ByteArray} (h : xs[i]? = some s) : (sV xs)[i]? = some (.string s) := by unfold sV; rw [List.getElem?_map, h]; rfl
theorem k1o (xs : List ByteArray) : (sV xs).all (·.oneCell') = true := by unfold sV; simp [Value.oneCell']
theorem x0f (xs : List ByteArray) (s : ByteArray) : sV xs ++ [.string s] = sV (xs ++ [s]) := by unfold sV; rw [List.map_append]; rfl
theorem z0m (s : ByteArray) (sz : Int) (cb : Nat) (w : World) (hb : Bt w cb 3 #[.int .i64 sz]) : Calls Tryz.prog 33 #[.string s, .pointer (some ⟨cb, 0, none⟩)] w fun en w' => en = .returned (.bool ((s.size : Int) != sz)) ∧ Below w.heap.size w w' := by
 have I := Inv.startR w [cb] [⟨3, [.v (.int .i64 sz)], true⟩] [] ⟨hb, True.intro⟩ True.intro
 refine a0c [.v (.string s), .p 0 0] I Tryz.func33 ?_
 exact zrb I
theorem z0n (xs : List ByteArray) (p : OA) (c : Nat) (sz : Int) (cb : Nat) (w : World) (hr : RdV w p (sV xs)) (hcb : Bt w cb 3 #[.int .i64 sz]) (hl : xs.length ≤ 9223372036854775807) : Calls Tryz.prog 70 #[.slice p xs.length c, .func (.func 33) #[] #[.pointer (some ⟨cb, 0, none⟩)]] w
 fun en w' => ∃ r : Int, en = .returned (.int .i64 r) ∧ (0 ≤ r ↔ ∃ s, s ∈ xs ∧ (s.size : Int) ≠ sz) ∧ Below w.heap.size w w' := by
 have HC := fun s W h => lHd (z0m s sz cb W h)
 have HX : ∀ i, i < xs.length → ∃ s, xs[i]? = some s ∧ s ∈ xs ∧ xs.take (i + 1) = xs.take i ++ [s] := fun i h => ⟨xs[i], List.getElem?_eq_getElem h, List.getElem_mem h, by rw [List.take_add_one, List.getElem?_eq_getElem h]; rfl⟩
 have hsol : f0v p xs.length := by have := hr.solid; rw [c0j] at this; exact this
 have I := Inv.start w [rdvF p (sV xs), btF cb 3 #[.int .i64 sz]] ⟨hr, hcb, True.intro⟩
 refine a0c [.v (.slice p xs.length c), .v (.func (.func 33) #[] #[.pointer (some ⟨cb, 0, none⟩)])] I Tryz.func70 ?_
 refine h0c I (fun gk fr bx gs => ∃ (U900 : Nat → Value) (i : Nat), fr = (.v (.slice p xs.length c) :: .v (.func (.func 33) #[] #[.pointer (some ⟨cb, 0, none⟩)]) :: su 2 (sw U900 4 3 (.v (.int .i64 (xs.length : Int)) :: .v (.int .i64 (i : Int)) :: sw U900 9 10 [])) : List SV) ∧ bx = [] ∧ gs = [rdvF p (sV xs), btF cb 3 #[.int .i64 sz]] ∧ (gk + i = xs.length) ∧ (∀ s, s ∈ xs.take i → (s.size : Int) = sz)) xs.length (fun Al W U I => ⟨_, ⟨U, 0, rfl, rfl, rfl, (by omega), (fun s h => by cases h)⟩, I.pick [0, 1]⟩) ?_
 rintro J0 gk0 _ _ _ ⟨U900, i, rfl, rfl, rfl, hgk, hall⟩ hJ0 Al W I
 rcases bTF (decide ((i : Int) < (xs.length : Int))) with f9 | f9
 · refine zb I 9 (decide ((i : Int) < (xs.length : Int))) (true) (f9) fun Al W I => ?_
   obtain ⟨s, hs, hsm, hst⟩ := HX i (by have := oTr f9; omega)
   by_cases hz : (s.size : Int) = sz
   · refine zx I 14 (fun _ => .pointer (some (at_ p i))) (fun Al W I => (d0k (m := i) (n := xs.length) (c := c) g0v hsol (by have := oTr f9; omega))) fun Al W I => zx I 15 (fun _ => .string s) (fun Al W I => (b0e (m := i) I.fa.1 c0a (h0p hs))) fun Al W I => zqd I (fun Al W I => (HC s W I.fa.2.1).out) (show ((s.size : Int) != sz) = false from bne_eq_false_iff_eq.2 hz) fun Al W I => zi I 18 .i64 ((i : Int) + 1) (((i + 1 : Nat) : Int)) ((by rw [show ((i : Int) + 1) = ((i + 1 : Nat) : Int) by omega]; exact IntWalk.i64_in _ (by have := oTr f9; omega))) fun Al W I => a0j I J0 fun Al W U I => hJ0 (gk0 - 1) _ _ _ _ _ ((by have := oTr f9; omega)) ⟨U, i + 1, rfl, rfl, rfl, (by have := oTr f9; omega), (fun s' h => by rw [hst, List.mem_append, List.mem_singleton] at h; rcases h with h | rfl; exact hall s' h; exact hz)⟩ (I.pick [0, 1])
   refine zx I 14 (fun _ => .pointer (some (at_ p i))) (fun Al W I => (d0k (m := i) (n := xs.length) (c := c) g0v hsol (by have := oTr f9; omega))) fun Al W I => zx I 15 (fun _ => .string s) (fun Al W I => (b0e (m := i) I.fa.1 c0a (h0p hs))) fun Al W I => zqd I (fun Al W I => (HC s W I.fa.2.1).out) (show ((s.size : Int) != sz) = true from bne_iff_ne.2 hz) fun Al W I => zret I fun Al W I => ⟨(i : Int), rfl, ⟨fun _ => ⟨s, hsm, hz⟩, fun _ => by omega⟩, I.below⟩
 refine zb I 9 (decide ((i : Int) < (xs.length : Int))) (false) (f9) fun Al W I => zret I (v := fun Al => vI (-1)) fun Al W I => ⟨-1, rfl, ⟨fun h => by omega, fun ⟨s, h, k⟩ => absurd (hall s (by rw [List.take_of_length_le (by have := oFa f9; omega)]; exact h)) k⟩, I.below⟩
theorem r0k (xs : List ByteArray) (p : OA) (c : Nat) (sz : Int) (cb : Nat) (w : World) (hr : RdV w p (sV xs)) (hcb : Bt w cb 3 #[.int .i64 sz]) (hl : xs.length ≤ 9223372036854775807) : Calls Tryz.prog 32 #[.slice p xs.length c, .func (.func 33) #[] #[.pointer (some ⟨cb, 0, none⟩)]] w
 fun en w' => en = .returned (.bool (xs.any fun s => (s.size : Int) != sz)) ∧ Below w.heap.size w w' := by
 have HC := fun W h h2 => lHd (z0n xs p c sz cb W h h2 hl)
 have I := Inv.start w [rdvF p (sV xs), btF cb 3 #[.int .i64 sz]] ⟨hr, hcb, True.intro⟩
 refine a0c [.v (.slice p xs.length c), .v (.func (.func 33) #[] #[.pointer (some ⟨cb, 0, none⟩)])] I Tryz.func32 ?_
 refine zg I (fun Al W I => (HC W I.fa.1 I.fa.2.1).out) fun Al V Iv _ hB _ kz => ?_
 rintro _ W ⟨r, rfl, hi, hb⟩
 refine ⟨_, rfl, kz _ _ hb fun I => ?_⟩
 exact zret I (v := fun Al => .bool (decide (r ≥ 0))) fun Al W I => ⟨congrArg (fun b => Ending.returned (.bool b)) (by rw [Bool.eq_iff_iff]; simp only [decide_eq_true_eq, List.any_eq_true, bne_iff_ne, ge_iff_le]; exact hi), I.below⟩
def chkS (f a g r : Int) (xs : List ByteArray) : Int :=
 if ¬ IsFm f then 6 else if ¬ (1 ≤ a ∧ a ≤ 5) then 6 else if ¬ (0 ≤ g ∧ g ≤ 31 ∧ 0 ≤ r ∧ r ≤ 31) then 3 else if 16 < xs.length then 2 else if xs.any (fun s => (s.size : Int) != (((fmt f).size : Nat) : Int)) then 1 else 0
theorem z0o (f a g r : Int) (xs : List ByteArray) (p : OA) (c : Nat) (w : World) (hr : RdV w p (sV xs)) (hl : xs.length ≤ 9223372036854775807) : Calls Tryz.prog 14 #[stV f a g r p xs.length c] w
 fun en w' => en = .returned (.int .i64 (chkS f a g r xs)) ∧ Below w.heap.size w w' := by
 have HS := fun W => lHd (w0r f W)
 have HC := fun p c cb W h h2 => lHd (r0k xs p c (((fmt f).size : Nat) : Int) cb W h h2 hl)
 have he : c0k f = if IsFm f then 0 else 6 := rfl
 unfold chkS
 generalize (((fmt f).size : Nat) : Int) = sz at *
 generalize c0k f = er at *
 generalize hb : (xs.any fun s => (s.size : Int) != sz) = b at *
 have HW := fun W => lHd (z0g a W)
 have HG := fun x W => lHd (j0b x 0 31 W)
 have I := Inv.start w [rdvF p (sV xs)] ⟨hr, True.intro⟩
 refine a0c [.v (.agg #[.int .i64 f, .int .i64 a, .int .i64 g, .int .i64 r, .slice p xs.length c])] I Tryz.func14 ?_
 refine zq I (fun Al W I => (HS W).out) fun Al W I => ?_
 rcases bTF (er != 0) with h13 | h13
 · refine zb I 13 (er != 0) (true) (h13) fun Al W I => zret I (v := fun Al => vI er) fun Al W I => ⟨congrArg (fun x => Ending.returned (vI x)) ?_, I.below⟩
   (have h := bne_iff_ne.1 h13; split at he; omega; rw [if_pos (by assumption), he])
 refine zb I 13 (er != 0) (false) (h13) fun Al W I => ?_
 by_cases hw : 1 ≤ a ∧ a ≤ 5
 · refine zqd I (fun Al W I => (HW W).out) (show (decide (1 ≤ a) && decide (a ≤ 5)) = true from (by rw [decide_eq_true hw.1, decide_eq_true hw.2]; rfl)) fun Al W I => ?_
   by_cases hg : 0 ≤ g ∧ g ≤ 31
   · by_cases hg2 : 0 ≤ r ∧ r ≤ 31
     · refine zqd I (fun Al W I => (HG g W).out) (show (decide (0 ≤ g) && decide (g ≤ 31)) = true from (by rw [decide_eq_true hg.1, decide_eq_true hg.2]; rfl)) fun Al W I => zqd I (fun Al W I => (HG r W).out) (show (decide (0 ≤ r) && decide (r ≤ 31)) = true from (by rw [decide_eq_true hg2.1, decide_eq_true hg2.2]; rfl)) fun Al W I => ?_
       rcases bTF (decide ((xs.length : Int) > 16)) with h35 | h35
       · refine zb I 35 (decide ((xs.length : Int) > 16)) (true) (h35) fun Al W I => zret I (v := fun Al => vI 2) fun Al W I => ⟨congrArg (fun x => Ending.returned (vI x)) ?_, I.below⟩
         (have h := bne_eq_false_iff_eq.1 h13; split at he; rotate_left; omega; rename_i hf; rw [if_neg (Classical.not_not.2 hf)]; first | (rw [if_pos hw]) | (rw [if_neg (Classical.not_not.2 hw)]; first | (rw [if_pos (fun h => hg ⟨h.1, h.2.1⟩)]) | (rw [if_pos (fun h => hg2 ⟨h.2.2.1, h.2.2.2⟩)]) | (rw [if_neg (Classical.not_not.2 ⟨hg.1, hg.2, hg2.1, hg2.2⟩)]; (rw [if_pos (by have := oTr h35; omega)]))))
       refine zb I 35 (decide ((xs.length : Int) > 16)) (false) (h35) fun Al W I => ?_
       by_cases hany : b = true
       · refine zqd I (fun Al W I => (HC p c (lk 0 Al 1) W I.fa.1 (I.box 1 3 _)).out) (show (b) = true from hany) fun Al W I => zret I (v := fun Al => vI 1) fun Al W I => ⟨congrArg (fun x => Ending.returned (vI x)) ?_, I.below⟩
         (have h := bne_eq_false_iff_eq.1 h13; split at he; rotate_left; omega; rename_i hf; rw [if_neg (Classical.not_not.2 hf)]; first | (rw [if_pos hw]) | (rw [if_neg (Classical.not_not.2 hw)]; first | (rw [if_pos (fun h => hg ⟨h.1, h.2.1⟩)]) | (rw [if_pos (fun h => hg2 ⟨h.2.2.1, h.2.2.2⟩)]) | (rw [if_neg (Classical.not_not.2 ⟨hg.1, hg.2, hg2.1, hg2.2⟩)]; (rw [if_neg (by have := oFa h35; omega)]; first | (rw [if_pos hany]) | (rw [if_neg hany])))))
       refine zqd I (fun Al W I => (HC p c (lk 0 Al 1) W I.fa.1 (I.box 1 3 _)).out) (show (b) = false from (by cases b with | true => exact absurd rfl hany | false => rfl)) fun Al W I => zret I (v := fun Al => vI 0) fun Al W I => ⟨congrArg (fun x => Ending.returned (vI x)) ?_, I.below⟩
       (have h := bne_eq_false_iff_eq.1 h13; split at he; rotate_left; omega; rename_i hf; rw [if_neg (Classical.not_not.2 hf)]; first | (rw [if_pos hw]) | (rw [if_neg (Classical.not_not.2 hw)]; first | (rw [if_pos (fun h => hg ⟨h.1, h.2.1⟩)]) | (rw [if_pos (fun h => hg2 ⟨h.2.2.1, h.2.2.2⟩)]) | (rw [if_neg (Classical.not_not.2 ⟨hg.1, hg.2, hg2.1, hg2.2⟩)]; (rw [if_neg (by have := oFa h35; omega)]; first | (rw [if_pos hany]) | (rw [if_neg hany])))))
     refine zqd I (fun Al W I => (HG g W).out) (show (decide (0 ≤ g) && decide (g ≤ 31)) = true from (by rw [decide_eq_true hg.1, decide_eq_true hg.2]; rfl)) fun Al W I => zqd I (fun Al W I => (HG r W).out) (show (decide (0 ≤ r) && decide (r ≤ 31)) = false from (by rw [← Bool.decide_and]; exact dFa hg2)) fun Al W I => zret I (v := fun Al => vI 3) fun Al W I => ⟨congrArg (fun x => Ending.returned (vI x)) ?_, I.below⟩
     (have h := bne_eq_false_iff_eq.1 h13; split at he; rotate_left; omega; rename_i hf; rw [if_neg (Classical.not_not.2 hf)]; first | (rw [if_pos hw]) | (rw [if_neg (Classical.not_not.2 hw)]; first | (rw [if_pos (fun h => hg ⟨h.1, h.2.1⟩)]) | (rw [if_pos (fun h => hg2 ⟨h.2.2.1, h.2.2.2⟩)])))
   refine zqd I (fun Al W I => (HG g W).out) (show (decide (0 ≤ g) && decide (g ≤ 31)) = false from (by rw [← Bool.decide_and]; exact dFa hg)) fun Al W I => zret I (v := fun Al => vI 3) fun Al W I => ⟨congrArg (fun x => Ending.returned (vI x)) ?_, I.below⟩
   (have h := bne_eq_false_iff_eq.1 h13; split at he; rotate_left; omega; rename_i hf; rw [if_neg (Classical.not_not.2 hf)]; first | (rw [if_pos hw]) | (rw [if_neg (Classical.not_not.2 hw)]; (rw [if_pos (fun h => hg ⟨h.1, h.2.1⟩)])))
 refine zqd I (fun Al W I => (HW W).out) (show (decide (1 ≤ a) && decide (a ≤ 5)) = false from (by rw [← Bool.decide_and]; exact dFa hw)) fun Al W I => zret I (v := fun Al => vI 6) fun Al W I => ⟨congrArg (fun x => Ending.returned (vI x)) ?_, I.below⟩
 (have h := bne_eq_false_iff_eq.1 h13; split at he; rotate_left; omega; rename_i hf; rw [if_neg (Classical.not_not.2 hf)]; (rw [if_pos hw]))
theorem m0a {f a g r : Int} {xs : List ByteArray} (h : chkS f a g r xs = 0) : IsFm f ∧ (1 ≤ a ∧ a ≤ 5) ∧ (0 ≤ g ∧ g ≤ 31 ∧ 0 ≤ r ∧ r ≤ 31) ∧ xs.length ≤ 16 ∧ ∀ s, s ∈ xs → s.size = (fmt f).size := by
 unfold chkS at h
 by_cases h1 : IsFm f
 · rw [if_neg (Classical.not_not.2 h1)] at h
   by_cases h2 : 1 ≤ a ∧ a ≤ 5
   · rw [if_neg (Classical.not_not.2 h2)] at h
     by_cases h3 : 0 ≤ g ∧ g ≤ 31 ∧ 0 ≤ r ∧ r ≤ 31
     · rw [if_neg (Classical.not_not.2 h3)] at h
       by_cases h4 : 16 < xs.length
       · rw [if_pos h4] at h; cases h
       · rw [if_neg h4] at h
         by_cases h5 : (xs.any fun s => (s.size : Int) != (((fmt f).size : Nat) : Int)) = true
         · rw [if_pos h5] at h; cases h
         · refine ⟨h1, h2, h3, by omega, fun s hs => ?_⟩
           have h6 := List.any_eq_false.1 (Bool.eq_false_iff.2 h5) s hs
           simp only [bne_iff_ne, ne_eq, Classical.not_not] at h6
           omega
     · rw [if_pos h3] at h; cases h
   · rw [if_pos h2] at h; cases h
 · rw [if_pos h1] at h; cases h
structure OpT where
 d : Int
 n : Int
 t : ByteArray
def OpT.cells (o : OpT) : List Value := [.int .i64 o.d, .int .i64 o.n, .string o.t]
def f0u (l : List OpT) : List Value := l.flatMap OpT.cells
theorem v0q (l : List OpT) : (f0u l).length = l.length * 3 := by
 induction l with
 | nil => rfl
 | cons o l ih => unfold f0u at ih ⊢; rw [List.flatMap_cons, List.length_append, ih, List.length_cons]; show 3 + _ = _; omega
theorem p0e : ∀ (l : List OpT) (i : Nat) (o : OpT), l[i]? = some o → ((f0u l).drop (i * 3)).take 3 = o.cells
 | o :: l, 0, _, h => by cases h; rfl
 | x :: l, i + 1, o, h => by
  have := p0e l i o h
  rw [← this, show (i + 1) * 3 = i * 3 + 3 by omega]
  rfl
def runL (F : St → OpT → St × Int) : St → List OpT → Nat → St × Nat × Int
 | s, [], i => (s, i, 0)
 | s, o :: l, i => if (F s o).2 = 0 then runL F (F s o).1 l (i + 1) else ((F s o).1, i, (F s o).2)
def runR (F : St → OpT → St × Int) (s : St) (xs : List ByteArray) (l : List OpT) : St × Nat × Int :=
 if chkS s.f s.a s.g s.r xs ≠ 0 then (⟨0, 0, 0, 0, []⟩, 0, chkS s.f s.a s.g s.r xs) else if 200 < l.length then (⟨0, 0, 0, 0, []⟩, 0, 2) else runL F s l 0
theorem r1d : y0h Tryz.prog 31 30 3 32 := w0m (z := .agg #[.int .i64 0, .int .i64 0, .string ByteArray.empty]) (by kernel_rfl) (by kernel_rfl) (by kernel_rfl) (by kernel_rfl) (by kernel_rfl)
theorem ldOp : l0n Tryz.prog 30 3 := w0d (by kernel_rfl) (by kernel_rfl)
theorem x0g (f a g r : Int) (xs : List ByteArray) (p : OA) (n c : Nat) (w : World) (hr : RdV w p (sV xs)) (hn : n = xs.length) (hl : xs.length ≤ 9223372036854775807) : Calls Tryz.prog 14 #[stV f a g r p n c] w
 fun en w' => en = .returned (.int .i64 (chkS f a g r xs)) ∧ Below w.heap.size w w' := by
 subst hn
 exact z0o f a g r xs p c w hr hl
def n1o (w : World) (R : St × Nat × Int) (en : Ending) (w' : World) : Prop :=
 ∃ p c, en = .returned (.tuple #[stV R.1.f R.1.a R.1.g R.1.r p R.1.vs.length c, .int .i64 (R.2.1 : Int), .int .i64 R.2.2]) ∧ OwnV w' w.heap.size 9 p c R.1.vs ∧ Below w.heap.size w w'
theorem n1p (F : St → OpT → St × Int) (Good : St → Prop) (f a g r : Int) (xs : List ByteArray) (l : List OpT) (p pl : OA) (c cl : Nat) (w : World) (hr : RdV w p (sV xs)) (hlr : RdV w pl (f0u l)) (hl : xs.length ≤ 9223372036854775807) (hll : l.length ≤ 9223372036854775807) (hT : TabW w)
 (hg0 : chkS f a g r xs = 0 → Good ⟨f, a, g, r, sV xs⟩) (hgood : ∀ s o, o ∈ l → Good s → (F s o).2 = 0 → Good (F s o).1) (hF : ∀ s o, (F s o).2 ≠ 0 → (F s o).1.vs = s.vs)
 (Hstep : ∀ s o p c W, o ∈ l → Good s → TabW W → RdV W p s.vs → Calls Tryz.prog 18 #[stV s.f s.a s.g s.r p s.vs.length c, opV o.d o.n o.t] W (l0m W p c (F s o))) :
 Calls Tryz.prog 9 #[stV f a g r p (sV xs).length c, .slice pl l.length cl] w (n1o w (runR F ⟨f, a, g, r, sV xs⟩ xs l)) := by
 have HC := fun W h => lHd (x0g f a g r xs p (sV xs).length c W h (c0j xs) hl)
 have HL := fun W h (hck : chkS f a g r xs = 0) => lHd (h0y f a g r p (sV xs).length c (sV xs) W h rfl (by rw [c0j]; have := (m0a hck).2.2.2.1; omega) (k1o xs))
 have HS := fun s o p c W (ho : o ∈ l) (hg : Good s) (h : TabW W) h2 (he : (F s o).2 = 0) => lHd ((Hstep s o p c W ho hg h h2).mono (R' := fun en w' => ∃ p' c', en = .returned (.tuple #[stV (F s o).1.f (F s o).1.a (F s o).1.g (F s o).1.r p' (F s o).1.vs.length c', .int .i64 (F s o).2]) ∧ OwnV w' W.heap.size 9 p' c' (F s o).1.vs ∧ Below W.heap.size W w') fun _ _ ⟨h1, _, h3⟩ => by obtain ⟨p', c', x, y⟩ := h1 he; exact ⟨p', c', x, y, h3⟩)
 have HE := fun s o p c W (ho : o ∈ l) (hg : Good s) (h : TabW W) h2 (he : (F s o).2 ≠ 0) => lHd ((Hstep s o p c W ho hg h h2).mono (R' := fun en w' => en = .returned (.tuple #[stV (F s o).1.f (F s o).1.a (F s o).1.g (F s o).1.r p (F s o).1.vs.length c, .int .i64 (F s o).2]) ∧ Below W.heap.size W w') fun _ _ ⟨_, h1, h3⟩ => ⟨h1 he, h3⟩)
 have HX : ∀ i, i < l.length → ∃ o, o ∈ l ∧ ((f0u l).drop (i * 3)).take 3 = o.cells ∧ l.drop i = o :: l.drop (i + 1) := fun i h => ⟨l[i], List.getElem_mem h, p0e l i _ (List.getElem?_eq_getElem h), (List.drop_eq_getElem_cons h)⟩
 have hsol : f0v pl l.length := fun h => hlr.solid (by rw [v0q]; omega)
 clear Hstep
 unfold n1o runR
 dsimp only
 generalize chkS f a g r xs = ck at *
 have I := Inv.start w [tabF, rdvF p (sV xs), rdvF pl (f0u l)] ⟨hT, hr, hlr, True.intro⟩
 refine a0c [.v (.agg #[.int .i64 f, .int .i64 a, .int .i64 g, .int .i64 r, .slice p (sV xs).length c]), .v (.slice pl l.length cl)] I Tryz.func9 ?_
 refine zq I (fun Al W I => (HC W I.fa.2.1).out) fun Al W I => ?_
 rcases bTF (ck != 0) with h15 | h15
 · refine zb I 15 (ck != 0) (true) (h15) fun Al W I => zret I (v := fun Al => .tuple #[.agg #[vI 0, vI 0, vI 0, vI 0, .slice none 0 0], vI 0, vI ck]) fun Al W I => ?_
   (rw [if_pos (bne_iff_ne.1 h15)]; exact ⟨none, 0, rfl, OwnV.nil _ _ _, I.below⟩)
 refine zb I 15 (ck != 0) (false) (h15) fun Al W I => ?_
 rcases bTF (decide ((l.length : Int) > 200)) with h20 | h20
 · refine zb I 20 (decide ((l.length : Int) > 200)) (true) (h20) fun Al W I => zret I (v := fun Al => .tuple #[.agg #[vI 0, vI 0, vI 0, vI 0, .slice none 0 0], vI 0, vI 2]) fun Al W I => ?_
   (rw [if_neg (Classical.not_not.2 (bne_eq_false_iff_eq.1 h15)), if_pos (by have := oTr h20; omega)]; exact ⟨none, 0, rfl, OwnV.nil _ _ _, I.below⟩)
 refine zb I 20 (decide ((l.length : Int) > 200)) (false) (h20) fun Al W I => zg I (fun Al W I => (HL W I.fa.2.1 (bne_eq_false_iff_eq.1 h15)).out) fun Al V Iv _ hB _ kz => ?_
 rintro _ W ⟨q23, d23, rfl, o23, hb⟩
 refine ⟨_, rfl, kz _ _ hb fun I => ?_⟩
 have I := I.ownv o23
 refine h0c I (fun gk fr bx gs => ∃ (U900 : Nat → Value) (i : Nat) (s : St) (p1 : OA) (c1 : Nat), fr = (.v (.agg #[.int .i64 f, .int .i64 a, .int .i64 g, .int .i64 r, .slice p (sV xs).length c]) :: .v (.slice pl l.length cl) :: .p 0 0 :: .v undef :: .p 1 0 :: sw U900 5 2 (.v (.int .i64 ck) :: sw U900 8 7 (.v (.bool false) :: sw U900 16 4 (.v (.bool false) :: sw U900 21 3 (.v (.slice pl l.length cl) :: .v (.int .i64 (l.length : Int)) :: .v (.int .i64 (i : Int)) :: sw U900 27 20 [])))) : List SV) ∧ bx = [⟨25, [.v (.int .i64 s.f), .v (.int .i64 s.a), .v (.int .i64 s.g), .v (.int .i64 s.r), .v (.slice p1 s.vs.length c1)], false⟩, ⟨25, [.v (.int .i64 0), .v (.int .i64 0), .v (.int .i64 0), .v (.int .i64 0), .v (.slice none 0 0)], false⟩] ∧ gs = [b0s w.heap.size 9 p1 c1 s.vs, tabF, rdvF p (sV xs), rdvF pl (f0u l)] ∧ (gk + i = l.length) ∧ (Good s) ∧ (runL F ⟨f, a, g, r, sV xs⟩ l 0 = runL F s (l.drop i) i)) l.length (fun Al W U I => ⟨_, ⟨U, 0, ⟨f, a, g, r, sV xs⟩, q23, d23, rfl, rfl, rfl, (by omega), (hg0 (bne_eq_false_iff_eq.1 h15)), rfl⟩, I.pick [0, 1, 2, 3]⟩) ?_
 rintro J0 gk0 _ _ _ ⟨U900, i, s, p1, c1, rfl, rfl, rfl, hgk, hgd, hrun⟩ hJ0 Al W I
 rcases bTF (decide ((i : Int) < (l.length : Int))) with f27 | f27
 · refine zb I 27 (decide ((i : Int) < (l.length : Int))) (true) (f27) fun Al W I => ?_
   obtain ⟨o, hom, hoc, hod⟩ := HX i (by have := oTr f27; omega)
   refine zx I 29 (fun _ => .pointer (some (at_ pl (i * 3)))) (fun Al W I => (m0z (m := i) (n := l.length) (c := cl) r1d hsol (by have := oTr f27; omega))) fun Al W I => zx I 30 (fun _ => .agg #[vI o.d, vI o.n, .string o.t]) (fun Al W I => (p1b (m := i * 3) I.fa.2.2.2.1 ldOp o.cells hoc rfl)) fun Al W I => ?_
   by_cases he : (F s o).2 = 0
   · refine zg I (fun Al W I => (HS s o p1 c1 W hom hgd I.fa.2.1 I.fa.1.rd he).out) fun Al V Iv _ hB _ kz => ?_
     rintro _ W ⟨p34, c34, rfl, o34, hb⟩
     refine ⟨_, rfl, kz _ _ hb fun I => ?_⟩
     have I := I.ownv o34
     refine zb I 39 (((F s o).2) != 0) (false) (bne_eq_false_iff_eq.2 he) fun Al W I => zi I 43 .i64 ((i : Int) + 1) (((i + 1 : Nat) : Int)) ((by rw [show ((i : Int) + 1) = ((i + 1 : Nat) : Int) by omega]; exact IntWalk.i64_in _ (by have := oTr f27; omega))) fun Al W I => o0u 2 I J0 fun Al W U I => hJ0 (gk0 - 1) _ _ _ _ _ ((by have := oTr f27; omega)) ⟨U, i + 1, (F s o).1, p34, c34, rfl, rfl, rfl, (by have := oTr f27; omega), (hgood s o hom hgd he), (by rw [hrun, hod]; show (if (F s o).2 = 0 then _ else _) = _; rw [if_pos he])⟩ (I.pick [0, 2, 3, 4])
   refine zq I (fun Al W I => (HE s o p1 c1 W hom hgd I.fa.2.1 I.fa.1.rd he).out) fun Al W I => zb I 39 (((F s o).2) != 0) (true) (bne_iff_ne.2 he) fun Al W I => zret I (v := fun Al => .tuple #[.agg #[vI ((F s o).1.f), vI ((F s o).1.a), vI ((F s o).1.g), vI ((F s o).1.r), .slice p1 (F s o).1.vs.length c1], vI (i : Int), vI ((F s o).2)]) fun Al W I => ?_
   (rw [if_neg (Classical.not_not.2 (bne_eq_false_iff_eq.1 h15)), if_neg (by have := oFa h20; omega), hrun, hod, show runL F s (o :: l.drop (i + 1)) i = ((F s o).1, i, (F s o).2) by (show (if (F s o).2 = 0 then _ else _) = _); rw [if_neg he]]; exact ⟨p1, c1, rfl, by rw [hF s o he]; exact I.fa.1, I.below⟩)
 refine zb I 27 (decide ((i : Int) < (l.length : Int))) (false) (f27) fun Al W I => zret I (v := fun Al => .tuple #[.agg #[vI s.f, vI s.a, vI s.g, vI s.r, .slice p1 s.vs.length c1], vI (l.length : Int), vI 0]) fun Al W I => ?_
 (rw [if_neg (Classical.not_not.2 (bne_eq_false_iff_eq.1 h15)), if_neg (by have := oFa h20; omega), hrun, List.drop_eq_nil_of_le (by have := oFa f27; omega), show i = l.length by have := oFa f27; omega]; exact ⟨p1, c1, rfl, I.fa.1, I.below⟩)
theorem x0h {P : Program} {W : World} {l : List Nat} {b : Bool} (h : Byt l) (hb : l = [] ↔ b = false) {t : TypeId} {x y : Operand} : (do eqGuard .neq t x y (.string (a0e l)) (.string ⟨#[]⟩); binOp .neq t (.string (a0e l)) (.string ⟨#[]⟩) : Sem Value).run P W = .ok (.bool b) W :=
 h1s ((q0z h).trans hb)
structure NumV (f : Fm) (v : Vl) (r : Vr) : Prop where
 d0 : 0 < v.d
 x0 : r.x.m ≠ 0
 ng : r.x.neg = v.neg
 dec : ∀ k, decM (numP v.d (wid f.g * v.pow)) (denP 1 (wid f.g * v.pow)) k = numX r.x k
 len : (dig B32 v.d).length ≤ 3
 e : -30000 ≤ wid f.g * v.pow ∧ wid f.g * v.pow ≤ 30000
theorem n1q {n : Int} {s : ByteArray} (h0 : a0x n s = 0) (hc : (refD n s).cls = 2) : NumV (fmt n) (decP n s) (refD n s) := by
 obtain ⟨hn, hs⟩ := d0n.1 h0
 have G := d0a hn
 have V := r0f h0
 have F := (j0a (s := s) hn).ok
 have hd : decP n s = (fmt n).valN (a0s (fmt n) s) := by unfold decP; rw [if_pos h0]
 have he : (fmt n).exp (a0s (fmt n) s) < 2 ^ (fmt n).E := Nat.mod_lt _ (Nat.pow_pos (by omega))
 have hx : (fmt n).frac (a0s (fmt n) s) < 2 ^ (fmt n).F := Nat.mod_lt _ (Nat.pow_pos (by omega))
 have hm := g1b (f := fmt n) ((fmt n).neg (a0s (fmt n) s)) (e := (fmt n).exp (a0s (fmt n) s)) hx
 have hD := fun k => m1p (f := fmt n) (g := (fmt n).neg (a0s (fmt n) s)) (d := (fmt n).decN (a0s (fmt n) s)) hc k
 have hlen : (dig B32 (decP n s).d).length ≤ 3 := by
  rw [hd]
  unfold Fm.valN Fm.vl
  simp only
  split
  · exact Nat.le_trans (a0k a0a (Nat.div_le_self _ _)) (a0q hm (by have := G.f2; omega))
  · rw [a0d]; exact Nat.zero_le _
 have hd0 : 0 < (decP n s).d := by rw [hd]; exact (hD 1).2.1
 refine ⟨hd0, (hD 1).2.2, ?_, fun k => by rw [hd]; exact (hD k).1, hlen, ?_⟩
 · rw [(F.x2 hc).2, V.neg]
 · have hnum := V.num hc
   have hlo := F.lo
   have hhi := F.hi
   have hb : bare ⟨(decP n s).neg, (decP n s).d, wid (fmt n).g * (decP n s).pow⟩ = ⟨(decP n s).neg, (decP n s).d / 2 ^ tz (decP n s).d, wid (fmt n).g * (decP n s).pow + tz (decP n s).d⟩ := w0b (by omega)
   rw [← hnum, hb] at hlo hhi
   simp only at hlo hhi
   have ht : tz (decP n s).d ≤ 100 := by
    have h1 := (c0t (decP n s).d hd0).1
    have h2 : 2 ^ tz (decP n s).d ≤ (decP n s).d := by
     have h3 : 0 < (decP n s).d / 2 ^ tz (decP n s).d := Nat.pos_of_ne_zero fun h => by rw [h, Nat.mul_zero] at h1; omega
     calc 2 ^ tz (decP n s).d = 2 ^ tz (decP n s).d * 1 := (Nat.mul_one _).symm
      _ ≤ 2 ^ tz (decP n s).d * ((decP n s).d / 2 ^ tz (decP n s).d) := Nat.mul_le_mul_left _ h3
      _ = _ := h1
    have h4 := (a0z (decP n s).d (blen (decP n s).d)).1 (Nat.le_refl _)
    have h5 := d0e (decP n s).d
    have h6 : tz (decP n s).d < blen (decP n s).d := (Nat.pow_lt_pow_iff_right (by omega : 1 < 2)).1 (Nat.lt_of_le_of_lt h2 h4)
    omega
   omega
def e1u (r : Vr) (k : Nat) : List Nat := if r.cls = 2 then numT r.neg (numX r.x k).1 (numX r.x k).2 else n0o r.cls r.neg
def c0e (n k : Int) (s : ByteArray) : Int := if a0x n s = 0 then (if k < 1 ∨ 60 < k then 3 else 0) else a0x n s
def b0k (n k : Int) (s : ByteArray) : ByteArray := if c0e n k s = 0 then a0e (e1u (refD n s) k.toNat) else a0e []
theorem i1w {s : List Nat} (h : ∀ y ∈ s, 48 ≤ y ∧ y ≤ 57) : Byt s := fun y hy => by have := h y hy; omega
theorem t0s (n k : Int) (s : ByteArray) (w : World) (hT : TabW w) (hP : PowW w) : Calls Tryz.prog 13 #[.int .i64 n, .string s, .int .i64 k] w fun en w' => en = .returned (.tuple #[.string (b0k n k s), .int .i64 (c0e n k s)]) ∧ Below w.heap.size w w' := by
 have HD := fun W h => lHd (k0z n s W h)
 have e1 : a0x n s ≠ 0 → c0e n k s = a0x n s ∧ b0k n k s = a0e [] := fun h => by
  have h1 : c0e n k s = a0x n s := by unfold c0e; rw [if_neg h]
  unfold b0k
  rw [h1, if_neg h]
  exact ⟨rfl, rfl⟩
 have e2 : a0x n s = 0 → (k < 1 ∨ 60 < k) → c0e n k s = 3 ∧ b0k n k s = a0e [] := fun h h' => by
  have h1 : c0e n k s = 3 := by unfold c0e; rw [if_pos h, if_pos h']
  unfold b0k
  rw [h1]
  exact ⟨rfl, rfl⟩
 have e3 : a0x n s = 0 → ¬ (k < 1 ∨ 60 < k) → c0e n k s = 0 ∧ b0k n k s = a0e (e1u (refD n s) k.toNat) := fun h h' => by
  have h1 : c0e n k s = 0 := by unfold c0e; rw [if_pos h, if_neg h']
  unfold b0k
  rw [h1]
  exact ⟨rfl, rfl⟩
 have hV := fun h => r0f (n := n) (s := s) h
 have hF : a0x n s = 0 → VrOk (refD n s) := fun h => (j0a (n := n) (s := s) (d0n.1 h).1).ok
 have hN := fun h h2 => n1q (n := n) (s := s) h h2
 unfold e1u at e3
 generalize refD n s = r at *
 generalize decP n s = v at *
 generalize c0e n k s = eo at *
 generalize b0k n k s = oo at *
 generalize a0x n s = er at *
 have HW := fun p c b W (h : Own W b .u32 139 p c (dig B32 v.d)) (h2 : 1 ≤ v.cls ∧ v.cls ≤ 5) h3 => lHd (i1p v p c b W h h2 h3)
 have HV := fun p c b W (h : Own W b .u32 139 p c (dig B32 v.d)) h2 => lHd (z0j n v p c b W h h2)
 have HDc := fun (N : NumV (fmt n) v r) (hk : ¬ (k < 1 ∨ 60 < k)) p q a b b1 b2 W (h1 : Own W b1 .u32 139 p a (dig B32 v.d)) (h2 : Own W b2 .u32 139 q b (dig B32 1)) => lHd (by
   have h := t0r v.neg v.d (wid (fmt n).g * v.pow) k.toNat p q a b b1 b2 W h1 h2 N.d0 (by have := N.len; omega) N.e (by omega)
   rw [N.dec, show (k.toNat : Int) = k by omega] at h
   exact h : Calls Tryz.prog 28 #[.agg #[.bool v.neg, .slice p (dig B32 v.d).length a, .slice q (dig B32 1).length b, .int .i64 (wid (fmt n).g * v.pow)], .int .i64 k] W fun en w' => en = .returned (.tuple #[.string (a0e (numX r.x k.toNat).1), .int .i64 (numX r.x k.toNat).2]) ∧ Below W.heap.size W w')
 have HNu := fun W (F : VrOk r) (N : NumV (fmt n) v r) (hk : ¬ (k < 1 ∨ 60 < k)) (h : PowW W) => lHd (by
   have A := w0v (k := k.toNat) N.x0 F.len (by omega)
   have B := h1q (k := k.toNat) N.x0 F.len ⟨F.lo, F.hi⟩ (by omega)
   exact r0i v.neg (numX r.x k.toNat).1 (numX r.x k.toNat).2 W (i1w A.2.1) (fun h => by have := A.1; rw [h, List.length_nil] at this; omega) (by omega) (by omega) h)
 generalize wid (fmt n).g * v.pow = E at *
 obtain ⟨wb, hwb⟩ : ∃ wb : Bool, (n0o v.cls v.neg = [] ↔ wb = false) := ⟨decide (v.cls ≠ 2), by rw [k0j]; simp⟩
 have I := Inv.start w [tabF, powF] ⟨hT, hP, True.intro⟩
 refine a0c [.v (.int .i64 n), .v (.string s), .v (.int .i64 k)] I Tryz.func13 ?_
 refine zqo I (fun Al W I => (HD W I.fa.1).out) fun Al W p16 c16 I => ?_
 rcases bTF (er != 0) with f20 | f20
 · refine zb I 20 (er != 0) (true) (f20) fun Al W I => zret I (v := fun Al => .tuple #[Go.Value.string (ByteArray.mk #[]), vI er]) fun Al W I => ?_
   first | (obtain ⟨h1, h2⟩ := e1 (bne_iff_ne.1 f20); rw [h1, h2]; exact ⟨rfl, I.below⟩) | (rw [q1, q2, if_pos hc, ← V.neg]; exact ⟨rfl, I.below⟩)
 refine zb I 20 (er != 0) (false) (f20) fun Al W I => ?_
 rcases bTF (decide (k < 1)) with f23 | f23
 · refine zb I 23 (decide (k < 1)) (true) (f23) fun Al W I => zret I (v := fun Al => .tuple #[Go.Value.string (ByteArray.mk #[]), vI 3]) fun Al W I => ?_
   first | (obtain ⟨h1, h2⟩ := e2 (bne_eq_false_iff_eq.1 f20) (by exact .inl (oTr f23)); rw [h1, h2]; exact ⟨rfl, I.below⟩) | (rw [q1, q2, if_pos hc, ← V.neg]; exact ⟨rfl, I.below⟩)
 refine zb I 23 (decide (k < 1)) (false) (f23) fun Al W I => ?_
 rcases bTF (decide (k > 60)) with f26 | f26
 · refine zb I 26 (decide (k > 60)) (true) (f26) fun Al W I => zret I (v := fun Al => .tuple #[Go.Value.string (ByteArray.mk #[]), vI 3]) fun Al W I => ?_
   first | (obtain ⟨h1, h2⟩ := e2 (bne_eq_false_iff_eq.1 f20) (by exact .inr (oTr f26)); rw [h1, h2]; exact ⟨rfl, I.below⟩) | (rw [q1, q2, if_pos hc, ← V.neg]; exact ⟨rfl, I.below⟩)
 refine zb I 26 (decide (k > 60)) (false) (f26) fun Al W I => ?_
 have h0 : er = 0 := bne_eq_false_iff_eq.1 f20
 have hk : ¬ (k < 1 ∨ 60 < k) := fun h => h.elim (oFa f23) (oFa f26)
 obtain ⟨q1, q2⟩ := e3 h0 hk
 have V := hV h0
 have F := hF h0
 refine zq I (fun Al W I => (HW p16 c16 _ W I.fa.1 (by rw [V.cls]; exact F.c) I.fa.2.1).out) fun Al W I => ?_
 rcases bTF (wb) with f31 | f31
 · refine zbin I 31 (.bool true) (fun _ _ _ _ W => ((x0h (t0q _ _) hwb)).trans (congrArg (fun z => Result.ok (Value.bool z) W) (show (wb) = true from f31))) fun Al W I => zret I (v := fun Al => .tuple #[.string (a0e (n0o v.cls v.neg)), vI 0]) fun Al W I => ?_
   first | (rw [q1, q2, if_pos hc, ← V.neg]; exact ⟨rfl, I.below⟩) | (have hc : r.cls ≠ 2 := fun h => (by have := hwb.1 (k0j.2 (V.cls.trans h)); rw [this] at f31; cases f31); rw [q1, q2, if_neg hc, ← V.cls, ← V.neg]; exact ⟨rfl, I.below⟩)
 refine zbin I 31 (.bool false) (fun _ _ _ _ W => ((x0h (t0q _ _) hwb)).trans (congrArg (fun z => Result.ok (Value.bool z) W) (show (wb) = false from f31))) fun Al W I => ?_
 have hc : r.cls = 2 := by rw [← V.cls]; exact k0j.1 (hwb.2 f31)
 have N := hN h0 hc
 refine zqo I (fun Al W I => have hzW := I.bel.size; (HV p16 c16 _ W I.fa.1 (by have := V.lo; have := V.hi; omega)).out) fun Al W q36 d36 I => zq I (fun Al W I => (HDc N hk p16 q36 c16 d36 _ _ W I.fa.2.1 I.fa.1).out) fun Al W I => zq I (fun Al W I => (HNu W F N hk I.fa.2.2.2.1).out) fun Al W I => zret I (v := fun Al => .tuple #[.string (a0e (numT v.neg (numX r.x k.toNat).1 (numX r.x k.toNat).2)), vI 0]) fun Al W I => ?_
 first | (rw [q1, q2, if_pos hc, ← V.neg]; exact ⟨rfl, I.below⟩) | (have hc : r.cls ≠ 2 := fun h => (by have := hwb.1 (k0j.2 (V.cls.trans h)); rw [this] at f31; cases f31); rw [q1, q2, if_neg hc, ← V.cls, ← V.neg]; exact ⟨rfl, I.below⟩)
theorem x0i {f a g r k : Int} {xs : List ByteArray} (h : chkS f a g r xs = 0) (hk : ¬ (k < 1 ∨ 60 < k)) : ∀ s, s ∈ xs → c0e f k s = 0 := fun s hs => by
 obtain ⟨h1, _, _, _, h2⟩ := m0a h
 have h0 : a0x f s = 0 := by unfold a0x; rw [if_pos h1, if_pos (h2 s hs)]
 unfold c0e
 rw [if_pos h0, if_neg hk]
def f0n (f a g r k : Int) (xs : List ByteArray) : Int := if chkS f a g r xs ≠ 0 then chkS f a g r xs else if k < 1 ∨ 60 < k then 3 else 0
def g0w (f a g r k : Int) (xs : List ByteArray) : List ByteArray := if f0n f a g r k xs = 0 then xs.map (b0k f k) else []
theorem i1x (f a g r k : Int) (xs : List ByteArray) (p : OA) (c : Nat) (w : World) (hr : RdV w p (sV xs)) (hl : xs.length ≤ 9223372036854775807) (hT : TabW w) (hP : PowW w) : Calls Tryz.prog 12 #[stV f a g r p (sV xs).length c, .int .i64 k] w
 fun en w' => ∃ q d, en = .returned (.tuple #[.slice q (sV (g0w f a g r k xs)).length d, .int .i64 (f0n f a g r k xs)]) ∧ OwnV w' w.heap.size 9 q d (sV (g0w f a g r k xs)) ∧ Below w.heap.size w w' := by
 have HC := fun W h => lHd (x0g f a g r xs p (sV xs).length c W h (c0j xs) hl)
 have HW := fun W => lHd (j0b k 1 60 W)
 have HP := fun s W h h2 => lHd (t0s f k s W h h2)
 have HO := @x0i f a g r k xs
 have HX : ∀ i, i < xs.length → ∃ s, (sV xs)[i]? = some (.string s) ∧ s ∈ xs ∧ sV ((xs.map (b0k f k)).take i) ++ [.string (b0k f k s)] = sV ((xs.map (b0k f k)).take (i + 1)) := fun i h => ⟨xs[i], h0p (List.getElem?_eq_getElem h), List.getElem_mem h, by rw [x0f, List.take_add_one, List.getElem?_map, List.getElem?_eq_getElem h]; rfl⟩
 have h16 : chkS f a g r xs = 0 → xs.length ≤ 16 := fun h => (m0a h).2.2.2.1
 have hsol : f0v p (sV xs).length := hr.solid
 have hrl := hr.lt
 have hg := hP.2
 have hxl := c0j xs
 have hE1 : chkS f a g r xs ≠ 0 → f0n f a g r k xs = chkS f a g r xs ∧ sV (g0w f a g r k xs) = [] := fun h => by
  have h1 : f0n f a g r k xs = chkS f a g r xs := by unfold f0n; rw [if_pos h]
  exact ⟨h1, by unfold g0w; rw [h1, if_neg h]; rfl⟩
 have hE2 : chkS f a g r xs = 0 → (k < 1 ∨ 60 < k) → f0n f a g r k xs = 3 ∧ sV (g0w f a g r k xs) = [] := fun h h2 => by
  have h1 : f0n f a g r k xs = 3 := by unfold f0n; rw [if_neg (Classical.not_not.2 h), if_pos h2]
  exact ⟨h1, by unfold g0w; rw [h1, if_neg (by decide)]; rfl⟩
 have hE3 : chkS f a g r xs = 0 → ¬ (k < 1 ∨ 60 < k) → f0n f a g r k xs = 0 ∧ g0w f a g r k xs = xs.map (b0k f k) := fun h h2 => by
  have h1 : f0n f a g r k xs = 0 := by unfold f0n; rw [if_neg (Classical.not_not.2 h), if_neg h2]
  exact ⟨h1, by unfold g0w; rw [h1, if_pos rfl]⟩
 generalize chkS f a g r xs = ck at *
 generalize f0n f a g r k xs = se at *
 generalize g0w f a g r k xs = sl at *
 have I := Inv.start w [tabF, powF, rdvF p (sV xs)] ⟨hT, hP, hr, True.intro⟩
 refine a0c [.v (.agg #[.int .i64 f, .int .i64 a, .int .i64 g, .int .i64 r, .slice p (sV xs).length c]), .v (.int .i64 k)] I Tryz.func12 ?_
 refine zq I (fun Al W I => (HC W I.fa.2.2.1).out) fun Al W I => ?_
 rcases bTF (ck != 0) with h15 | h15
 · refine zb I 15 (ck != 0) (true) (h15) fun Al W I => zret I (v := fun Al => .tuple #[.slice none 0 0, vI ck]) fun Al W I => ?_
   (rw [(hE1 (bne_iff_ne.1 h15)).1, (hE1 (bne_iff_ne.1 h15)).2]; exact ⟨none, 0, rfl, OwnV.nil _ _ _, I.below⟩)
 refine zb I 15 (ck != 0) (false) (h15) fun Al W I => ?_
 by_cases hk : 1 ≤ k ∧ k ≤ 60
 · refine zqd I (fun Al W I => (HW W).out) (show (decide (1 ≤ k) && decide (k ≤ 60)) = true from (by rw [decide_eq_true hk.1, decide_eq_true hk.2]; rfl)) fun Al W I => ?_
   have I := I.add (b0s w.heap.size 9 none 0 []) (OwnV.nil _ _ _) (fun _ _ h => by cases h.1)
   refine h0c I (fun gk fr bx gs => ∃ (U900 : Nat → Value) (i : Nat) (q7 : OA) (d7 : Nat), fr = (.v (.agg #[.int .i64 f, .int .i64 a, .int .i64 g, .int .i64 r, .slice p (sV xs).length c]) :: .v (.int .i64 k) :: .p 0 0 :: .v undef :: sw U900 4 2 (.v (.int .i64 ck) :: .v (.slice q7 i d7) :: .v undef :: sw U900 9 6 (.v (.bool false) :: sw U900 16 3 (.v (.bool false) :: .v (U900 20) :: .v (.slice p (sV xs).length c) :: .v (.int .i64 (((sV xs).length : Nat) : Int)) :: .v (.int .i64 (i : Int)) :: sw U900 24 20 []))) : List SV) ∧ bx = [⟨25, [.v (.int .i64 f), .v (.int .i64 a), .v (.int .i64 g), .v (.int .i64 r), .v (.slice p (sV xs).length c)], false⟩] ∧ gs = [b0s w.heap.size 9 q7 d7 (sV ((xs.map (b0k f k)).take i)), tabF, powF, rdvF p (sV xs)] ∧ (gk + i = xs.length)) xs.length (fun Al W U I => ⟨_, ⟨U, 0, none, 0, rfl, rfl, rfl, (by omega)⟩, I.pick [0, 1, 2, 3]⟩) ?_
   rintro J0 gk0 _ _ _ ⟨U900, i, q7, d7, rfl, rfl, rfl, hgk⟩ hJ0 Al W I
   rcases bTF (decide ((i : Int) < (((sV xs).length : Nat) : Int))) with f24 | f24
   · refine zb I 24 (decide ((i : Int) < (((sV xs).length : Nat) : Int))) (true) (f24) fun Al W I => ?_
     obtain ⟨s, hs, hsm, hst⟩ := HX i (by have := oTr f24; omega)
     refine zx I 25 (fun _ => .pointer (some (at_ p i))) (fun Al W I => (d0k (m := i) (n := (sV xs).length) (c := c) g0v hsol (by have := oTr f24; omega))) fun Al W I => zx I 26 (fun _ => .string s) (fun Al W I => (b0e (m := i) I.fa.2.2.2.1 c0a hs)) fun Al W I => zq I (fun Al W I => (HP s W I.fa.2.1 I.fa.2.2.1).out) fun Al W I => zb I 36 ((c0e f k s) != 0) (false) (bne_eq_false_iff_eq.2 (HO (bne_eq_false_iff_eq.1 h15) (by omega) s hsm)) fun Al W I => zapv I [0, 1, 2] g0v 23 i 1 (i + 1) (fun Al => some ⟨(lk 0 Al 1), 0, none⟩) 1 ([Value.string (b0k f k s)]) (by rw [c0j, List.length_take, List.length_map]; have := oTr f24; omega) rfl rfl (by have := oTr f24; have := h16 (bne_eq_false_iff_eq.1 h15); omega) hst (us := sV ((xs.map (b0k f k)).take (i + 1))) (fun Al W I => c1h (I.box 1 9 _)) (fun Al W I h9 => ⟨fun e => by have h1 := (I.fa.1.blk_lt h9).1; have e : 0 = _ := e; omega, fun e => by have h1 := (I.fa.1.blk_lt h9).1; have e : 5 = _ := e; omega, fun h => by have h1 := (I.fa.1.blk_lt h9).1; have h2 := hrl h.1; have e : blk p = _ := h.2; omega, True.intro⟩) (fun Al W p41 c41 I => ?_)
     have I := I.add (b0s w.heap.size 9 none 0 []) (OwnV.nil _ _ _) (fun _ _ h => by cases h.1)
     refine zi I 42 .i64 ((i : Int) + 1) (((i + 1 : Nat) : Int)) ((by rw [show ((i : Int) + 1) = ((i + 1 : Nat) : Int) by omega]; exact IntWalk.i64_in _ (by have := oTr f24; omega))) fun Al W I => o0u 1 I J0 fun Al W U I => hJ0 (gk0 - 1) _ _ _ _ _ ((by have := oTr f24; omega)) ⟨U, i + 1, p41, c41, rfl, rfl, rfl, (by have := oTr f24; omega)⟩ (I.pick [1, 2, 3, 4])
   refine zb I 24 (decide ((i : Int) < (((sV xs).length : Nat) : Int))) (false) (f24) fun Al W I => zret I (v := fun Al => .tuple #[.slice q7 i d7, vI 0]) fun Al W I => ?_
   first | (rw [(hE2 (bne_eq_false_iff_eq.1 h15) (by omega)).1, (hE2 (bne_eq_false_iff_eq.1 h15) (by omega)).2]; exact ⟨none, 0, rfl, OwnV.nil _ _ _, I.below⟩) | (rw [(hE3 (bne_eq_false_iff_eq.1 h15) (by omega)).1, (hE3 (bne_eq_false_iff_eq.1 h15) (by omega)).2]; have hi : i = xs.length := (by have := oFa f24; omega); have h9 := I.fa.1; rw [List.take_of_length_le (by rw [List.length_map]; omega)] at h9; exact ⟨q7, d7, by rw [hi, c0j, List.length_map], h9, I.below⟩)
 refine zqd I (fun Al W I => (HW W).out) (show (decide (1 ≤ k) && decide (k ≤ 60)) = false from (by rw [← Bool.decide_and]; exact dFa hk)) fun Al W I => zret I (v := fun Al => .tuple #[.slice none 0 0, vI 3]) fun Al W I => ?_
 (rw [(hE2 (bne_eq_false_iff_eq.1 h15) (by omega)).1, (hE2 (bne_eq_false_iff_eq.1 h15) (by omega)).2]; exact ⟨none, 0, rfl, OwnV.nil _ _ _, I.below⟩)
theorem and0 (n : Int) : bits .and .i64 n 0 = 0 := by
 show IntKind.i64.wrap ((BitVec.ofInt 64 n &&& BitVec.ofInt 64 0).toNat : Nat) = 0
 rw [show BitVec.ofInt 64 0 = 0#64 from rfl, BitVec.and_zero]
 rfl
def txAt (vs : List Value) (i : Nat) : ByteArray := match vs[i]? with | some (.string s) => s | _ => ByteArray.empty
theorem r0l {xs : List ByteArray} {i : Nat} {s : ByteArray} (h : xs[i]? = some s) : txAt (sV xs) i = s := by unfold txAt; rw [h0p h]
def e1v (n way : Int) (x y : ByteArray) (R : Vr × Nat) : ByteArray := if errR n way [x, y] = 0 then strR n R.1 else a0e []
def flR2 (n way : Int) (x y : ByteArray) (R : Vr × Nat) : Nat := if errR n way [x, y] = 0 then R.2 else 0
theorem k1p {n way : Int} {x y : ByteArray} {R : Vr × Nat} {w : World} {en : Ending} {w' : World} (h : k0i n way [x, y] R w en w') : en = .returned (.tuple #[.string (e1v n way x y R), .int .i64 ((flR2 n way x y R : Nat) : Int), .int .i64 (errR n way [x, y])]) ∧ Below w.heap.size w w' := by
 refine ⟨?_, h.2⟩
 have h := h.1
 unfold e1v flR2
 by_cases h0 : errR n way [x, y] = 0
 · rw [if_pos h0] at h ⊢
   rw [if_pos h0]
   exact h
 · rw [if_neg h0] at h ⊢
   rw [if_neg h0]
   exact h
def twoF (s : St) (R : ByteArray → ByteArray → Vr × Nat) : St × Int :=
 g0r 2 s ((flR2 s.f s.a (txAt s.vs (s.vs.length - 2)) (txAt s.vs (s.vs.length - 1)) (R (txAt s.vs (s.vs.length - 2)) (txAt s.vs (s.vs.length - 1))) : Nat) : Int) (errR s.f s.a [txAt s.vs (s.vs.length - 2), txAt s.vs (s.vs.length - 1)])
  (if errR s.f s.a [txAt s.vs (s.vs.length - 2), txAt s.vs (s.vs.length - 1)] = 0 then s.vs.take (s.vs.length - 2) ++ [.string (e1v s.f s.a (txAt s.vs (s.vs.length - 2)) (txAt s.vs (s.vs.length - 1)) (R (txAt s.vs (s.vs.length - 2)) (txAt s.vs (s.vs.length - 1))))] else s.vs.take (s.vs.length - 2))
def x0j (s : St) (t : ByteArray) : St × Int :=
 g0r 0 s (r0j (a0o s.f s.a (a0b t)) s.vs.length ((flP' s.f s.a (a0b t) : Nat) : Int)) (d0g (a0o s.f s.a (a0b t)) s.vs.length) (if d0g (a0o s.f s.a (a0b t)) s.vs.length = 0 then s.vs ++ [.string (outP s.f s.a (a0b t))] else s.vs)
def x0k (s : St) : St × Int :=
 g0r 1 s 0 (d0g 0 s.vs.length) (if d0g 0 s.vs.length = 0 then s.vs ++ [.string (txAt s.vs (s.vs.length - 1))] else s.vs)
def j0c (s : St) (o : OpT) : St × Int :=
 if o.d = 1 then x0j s o.t
 else if o.d = 11 then x0k s
 else if o.d = 3 then twoF s fun x y => (fmt s.f).addM (refD s.f x) (refD s.f y) s.a
 else twoF s fun x y => (fmt s.f).mulM (refD s.f x) (refD s.f y) s.a
def z0p (s : St) : Prop := ∃ xs, s.vs = sV xs ∧ xs.length ≤ 16
def okOp (o : OpT) : Prop := o.d = 1 ∨ o.d = 11 ∨ o.d = 3 ∨ o.d = 5
theorem i1y {xs : List ByteArray} (h : 2 ≤ xs.length) : (sV xs).drop ((sV xs).length - 2) = [.string (txAt (sV xs) ((sV xs).length - 2)), .string (txAt (sV xs) ((sV xs).length - 1))] := by
 rw [c0j, r0l (List.getElem?_eq_getElem (show xs.length - 2 < xs.length by omega)), r0l (List.getElem?_eq_getElem (show xs.length - 1 < xs.length by omega))]
 apply List.ext_getElem?
 intro i
 rw [List.getElem?_drop]
 match i with
 | 0 => rw [h0p (List.getElem?_eq_getElem (show xs.length - 2 + 0 < xs.length by omega))]; rfl
 | 1 => rw [show xs.length - 2 + 1 = xs.length - 1 by omega, h0p (List.getElem?_eq_getElem (show xs.length - 1 < xs.length by omega))]; rfl
 | i + 2 => rw [List.getElem?_eq_none (by rw [c0j]; omega)]; rfl
theorem i1z (s : St) (o : OpT) (p : OA) (c : Nat) (W : World) (ho : okOp o) (hg : z0p s) (hT : TabW W) (hr : RdV W p s.vs) : Calls Tryz.prog 18 #[stV s.f s.a s.g s.r p s.vs.length c, opV o.d o.n o.t] W (l0m W p c (j0c s o)) := by
 obtain ⟨xs, hv, hl⟩ := hg
 have hl2 : s.vs.length ≤ 16 := by rw [hv, c0j]; exact hl
 have h1 : s.vs.all (·.oneCell') = true := by rw [hv]; exact k1o xs
 have hlast : 1 ≤ s.vs.length → s.vs[s.vs.length - 1]? = some (.string (txAt s.vs (s.vs.length - 1))) := fun h => by
  rw [hv, c0j] at h ⊢
  have h2 := List.getElem?_eq_getElem (show xs.length - 1 < xs.length by omega)
  rw [h0p h2, r0l h2]
 have hdr : 2 ≤ s.vs.length → s.vs.drop (s.vs.length - 2) = [.string (txAt s.vs (s.vs.length - 2)), .string (txAt s.vs (s.vs.length - 1))] := fun h => by
  rw [hv] at h ⊢
  rw [c0j] at h
  exact i1y h
 unfold j0c
 obtain ⟨d, n, t⟩ := o
 dsimp only
 rcases ho with h | h | h | h <;> (have h : d = _ := h; subst h)
 · rw [if_pos rfl]
   exact e1t s n t p c W hT hr hl2 h1
 · rw [if_neg (by decide), if_pos rfl]
   exact z0l s n t _ p c W hT hr hl2 h1 hlast
 · rw [if_neg (by decide), if_neg (by decide), if_pos rfl]
   exact x0e s 3 n t 11 (fun _ _ => by kernel_rfl) (fun W => lHd (q1c W)) _ _ _ _ _ p c W hT hr hl2 h1 hdr fun W h => lHd ((i1g _ _ _ _ W h).mono fun _ _ h => k1p h)
 · rw [if_neg (by decide), if_neg (by decide), if_neg (by decide)]
   exact x0e s 5 n t 80 (fun _ _ => by kernel_rfl) (fun W => lHd (q1d W)) _ _ _ _ _ p c W hT hr hl2 h1 hdr fun W h => lHd ((i1i _ _ _ _ W h).mono fun _ _ h => k1p h)
theorem l0e {need : Nat} {s : St} {fl er : Int} {us : List Value} (h : (g0r need s fl er us).2 = 0) : ¬ s.vs.length < need ∧ er = 0 ∧ (g0r need s fl er us).1.vs = us := by
 unfold g0r at h ⊢
 split at h
 · cases h
 · rename_i h1
   split at h
   · rename_i h2; exact absurd h h2
   · rename_i h2
     split at h
     · cases h
     · rename_i h3
       refine ⟨h1, Classical.not_not.1 h2, ?_⟩
       rw [if_neg h1, if_neg h2, if_neg h3]
theorem i0a {need : Nat} {s : St} {fl er : Int} {us : List Value} (h : (g0r need s fl er us).2 ≠ 0) : (g0r need s fl er us).1.vs = s.vs := by
 unfold g0r at h ⊢
 split
 · rfl
 · split
   · rfl
   · split
     · rfl
     · rename_i h1 h2 h3
       rw [if_neg h1, if_neg h2, if_neg h3] at h
       exact absurd rfl h
theorem e1w (s : St) (o : OpT) (h : (j0c s o).2 ≠ 0) : (j0c s o).1.vs = s.vs := by
 unfold j0c at h ⊢
 split at h
 · rename_i h1; rw [if_pos h1]; exact i0a h
 · rename_i h1; rw [if_neg h1]
   split at h
   · rename_i h2; rw [if_pos h2]; exact i0a h
   · rename_i h2; rw [if_neg h2]
     split at h
     · rename_i h3; rw [if_pos h3]; exact i0a h
     · rename_i h3; rw [if_neg h3]; exact i0a h
theorem p0f {er : Int} {n : Nat} (h : d0g er n = 0) : er = 0 ∧ n ≠ 16 := by
 unfold d0g at h
 split at h
 · cases h
 · rename_i h1; exact ⟨h, fun k => h1 ⟨h, k⟩⟩
theorem t0t {s : St} {R : ByteArray → ByteArray → Vr × Nat} (hg : z0p s) (h : (twoF s R).2 = 0) : z0p (twoF s R).1 := by
 obtain ⟨xs, hv, hl⟩ := hg
 unfold twoF at h ⊢
 obtain ⟨h1, h2, h3⟩ := l0e h
 rw [if_pos h2] at h3
 refine ⟨xs.take (xs.length - 2) ++ [e1v s.f s.a (txAt s.vs (s.vs.length - 2)) (txAt s.vs (s.vs.length - 1)) (R (txAt s.vs (s.vs.length - 2)) (txAt s.vs (s.vs.length - 1)))], ?_, ?_⟩
 · rw [if_pos h2, h3, ← x0f]
   congr 1
   rw [hv, c0j]
   unfold sV
   rw [List.map_take]
 · rw [hv, c0j] at h1
   rw [List.length_append, List.length_take, List.length_singleton]
   omega
theorem e1x (s : St) (o : OpT) (hg : z0p s) (h : (j0c s o).2 = 0) : z0p (j0c s o).1 := by
 unfold j0c at h ⊢
 split at h
 · rename_i h1; rw [if_pos h1]
   obtain ⟨xs, hv, hl⟩ := hg
   unfold x0j at h ⊢
   obtain ⟨a1, a2, a3⟩ := l0e h
   rw [if_pos a2] at a3
   have := p0f a2
   rw [hv, c0j] at this
   refine ⟨xs ++ [outP s.f s.a (a0b o.t)], by rw [if_pos a2, a3, hv, x0f], by rw [List.length_append, List.length_singleton]; omega⟩
 · rename_i h1; rw [if_neg h1]
   split at h
   · rename_i h2; rw [if_pos h2]
     obtain ⟨xs, hv, hl⟩ := hg
     unfold x0k at h ⊢
     obtain ⟨a1, a2, a3⟩ := l0e h
     rw [if_pos a2] at a3
     have := p0f a2
     rw [hv, c0j] at this
     refine ⟨xs ++ [txAt s.vs (s.vs.length - 1)], by rw [if_pos a2, a3, ← x0f, hv], by rw [List.length_append, List.length_singleton]; omega⟩
   · rename_i h2; rw [if_neg h2]
     split at h
     · rename_i h3; rw [if_pos h3]; exact t0t hg h
     · rename_i h3; rw [if_neg h3]; exact t0t hg h
theorem j1a (f a g r : Int) (xs : List ByteArray) (l : List OpT) (p pl : OA) (c cl : Nat) (w : World) (hr : RdV w p (sV xs)) (hlr : RdV w pl (f0u l)) (hl : xs.length ≤ 9223372036854775807) (hll : l.length ≤ 9223372036854775807) (hT : TabW w) (hok : ∀ o, o ∈ l → okOp o) :
 Calls Tryz.prog 9 #[stV f a g r p (sV xs).length c, .slice pl l.length cl] w (n1o w (runR j0c ⟨f, a, g, r, sV xs⟩ xs l)) :=
 n1p j0c z0p f a g r xs l p pl c cl w hr hlr hl hll hT (fun h => ⟨xs, rfl, (m0a h).2.2.2.1⟩) (fun s o _ h h2 => e1x s o h h2) e1w fun s o p c W ho hg hT hr => i1z s o p c W (hok o ho) hg hT hr
/-! ### What comes of it, where all goes well -/
theorem n1r {f a g : Int} {vs : List Value} {t : ByteArray} (h : a0o f a (a0b t) = 0) (hl : vs.length < 16) : x0j ⟨f, a, g, 0, vs⟩ t = (⟨f, a, bits .or .i64 g ((flP' f a (a0b t) : Nat) : Int), 0, vs ++ [.string (outP f a (a0b t))]⟩, 0) := by
 have h1 : d0g (a0o f a (a0b t)) vs.length = 0 := by unfold d0g; rw [if_neg (by omega)]; exact h
 have h2 : r0j (a0o f a (a0b t)) vs.length ((flP' f a (a0b t) : Nat) : Int) = ((flP' f a (a0b t) : Nat) : Int) := by unfold r0j; rw [if_neg (by omega)]
 unfold x0j
 dsimp only
 rw [h1, h2, if_pos rfl, h0z (s := ⟨f, a, g, 0, vs⟩) (by omega) rfl (and0 _)]
theorem n1s {f a g : Int} {xs : List ByteArray} {s : ByteArray} (hs : xs[xs.length - 1]? = some s) (hl : xs.length < 16) (h1 : 1 ≤ xs.length) : x0k ⟨f, a, g, 0, sV xs⟩ = (⟨f, a, bits .or .i64 g 0, 0, sV xs ++ [.string s]⟩, 0) := by
 have h2 : d0g 0 (sV xs).length = 0 := by unfold d0g; rw [if_neg (by rw [c0j]; omega)]
 unfold x0k
 dsimp only
 rw [h2, if_pos rfl, h0z (s := ⟨f, a, g, 0, sV xs⟩) (by show ¬ (sV xs).length < 1; rw [c0j]; omega) rfl (and0 _), c0j, r0l hs]
theorem q1e {f a g : Int} {x y : ByteArray} {R : ByteArray → ByteArray → Vr × Nat} (h : errR f a [x, y] = 0) : twoF ⟨f, a, g, 0, sV [x, y]⟩ R = (⟨f, a, bits .or .i64 g (((R x y).2 : Nat) : Int), 0, sV [strR f (R x y).1]⟩, 0) := by
 unfold twoF
 dsimp only
 have e1 : txAt (sV [x, y]) ((sV [x, y]).length - 2) = x := rfl
 have e2 : txAt (sV [x, y]) ((sV [x, y]).length - 1) = y := rfl
 rw [e1, e2, h, if_pos rfl, h0z (s := ⟨f, a, g, 0, sV [x, y]⟩) (by show ¬ 2 < 2; omega) rfl (and0 _)]
 unfold e1v flR2
 rw [if_pos h, if_pos h]
 rfl
theorem v0r {F : St → OpT → St × Int} {s s' : St} {o : OpT} {l : List OpT} {i : Nat} (h : F s o = (s', 0)) : runL F s (o :: l) i = runL F s' l (i + 1) := by
 show (if (F s o).2 = 0 then _ else _) = _
 rw [h, if_pos rfl]
theorem t0u : a0o 2 1 [50] = 0 := by decide +kernel
theorem j1b {n way : Int} {l : List Nat} (h : a0o n way l = 0) : IsFm n ∧ (1 ≤ way ∧ way ≤ 5) ∧ a0x n (outP n way l) = 0 := by
 have hn : IsFm n := by unfold a0o at h; split at h; assumption; cases h
 have h1 := h
 unfold a0o at h1
 rw [if_pos hn] at h1
 split at h1
 · rename_i h2
   unfold errQ at h1
   rw [if_pos hn] at h1
   split at h1
   · rename_i h3
     refine ⟨hn, h3, ?_⟩
     unfold outP
     rw [if_pos h]
     have hok := e1r h2
     unfold fitQ
     by_cases h0 : (ratL l).2.1 = 0
     · rw [if_pos h0]
       exact (x0d hn (r := ⟨1, false, vz⟩) ⟨⟨Nat.le_refl 1, by show 1 ≤ 5; decide⟩, fun _ h => absurd h (show ¬ false = true by decide), fun h => absurd h (show ¬ 1 = 2 by decide), fun h => absurd h (show ¬ 1 = 3 by decide), fun h => absurd h (show ¬ 1 = 4 by decide), fun h => absurd h (show ¬ 1 = 5 by decide), fun _ => rfl⟩).1
     · rw [if_neg h0]
       exact (x0d hn (h0v (d0a hn) (by have := hok.d0; omega)).1).1
   · cases h1
 · rename_i h2
   exact absurd h1 h2
theorem j1c {n way : Int} {x y : ByteArray} (hn : IsFm n) (hw : 1 ≤ way ∧ way ≤ 5) (hx : a0x n x = 0) (hy : a0x n y = 0) : errR n way [x, y] = 0 := by
 unfold errR
 rw [if_pos hn, if_pos (by unfold errL; rw [if_pos hx]; unfold errL; rw [if_pos hy]; rfl), if_pos hw]
theorem o0a (f a g r : Int) (xs : List ByteArray) (p : OA) (n c : Nat) (w : World) (hr : RdV w p (sV xs)) (hn : n = (sV xs).length) (hl : xs.length ≤ 9223372036854775807) : Calls Tryz.prog 15 #[stV f a g r p n c] w
 fun en w' => en = .returned (.int .i64 (chkS f a g r xs)) ∧ Below w.heap.size w w' := by
 subst hn
 have HF := fun W => lHd (q0x f W)
 have HW := fun W => lHd ((t0a a W).mono (R' := fun en w' => en = .returned (.bool (wayB a)) ∧ Below W.heap.size W w') fun _ _ h => ⟨h.1, h.2 ▸ Below.refl _ _⟩)
 have HX : ∀ i, i < xs.length → ∃ s, (sV xs)[i]? = some (.string s) ∧ s ∈ xs ∧ xs.take (i + 1) = xs.take i ++ [s] ∧ ((∀ s, xs[i]? = some s → s.size = (fmt f).size) ↔ s.size = (fmt f).size) := fun i h => ⟨xs[i], h0p (List.getElem?_eq_getElem h), List.getElem_mem h, by rw [List.take_add_one, List.getElem?_eq_getElem h]; rfl, fun k => k _ (List.getElem?_eq_getElem h), fun k s hs => by rw [List.getElem?_eq_getElem h] at hs; cases hs; exact k⟩
 have hsol : f0v p (sV xs).length := hr.solid
 have hxl := c0j xs
 unfold chkS
 generalize fmt f = F at *
 have I := Inv.start w [rdvF p (sV xs)] ⟨hr, True.intro⟩
 refine a0c [.v (.agg #[.int .i64 f, .int .i64 a, .int .i64 g, .int .i64 r, .slice p (sV xs).length c])] I Tryz.func15 ?_
 refine zq I (fun Al W I => (HF W).out) fun Al W I => ?_
 by_cases hF : IsFm f
 · by_cases hw : 1 ≤ a ∧ a ≤ 5
   · refine zb I 13 (!(decide (IsFm f))) (false) ((by rw [decide_eq_true hF]; rfl)) fun Al W I => zqd I (fun Al W I => (HW W).out) (show (wayB a) = true from (k0b hw.1 hw.2)) fun Al W I => ?_
     by_cases hg : 0 ≤ g ∧ g ≤ 31 ∧ 0 ≤ r ∧ r ≤ 31
     · refine zb I 22 (decide (g < 0)) (false) (dFa (by omega)) fun Al W I => zb I 26 (decide (g > 31)) (false) (dFa (by omega)) fun Al W I => zb I 31 (decide (r < 0)) (false) (dFa (by omega)) fun Al W I => zb I 36 (decide (r > 31)) (false) (dFa (by omega)) fun Al W I => ?_
       rcases bTF (decide ((((sV xs).length : Nat) : Int) > 16)) with h41 | h41
       · refine zb I 41 (decide ((((sV xs).length : Nat) : Int) > 16)) (true) (h41) fun Al W I => zret I (v := fun Al => vI 2) fun Al W I => ⟨congrArg (fun x => Ending.returned (vI x)) ?_, I.below⟩
         first | (rw [if_pos hF]) | (rw [if_neg (Classical.not_not.2 hF)]; first | (rw [if_pos hw]) | (rw [if_neg (Classical.not_not.2 hw)]; first | (rw [if_pos hg]) | (rw [if_neg (Classical.not_not.2 hg)]; (rw [if_pos (by have := oTr h41; omega)]))))
       refine zb I 41 (decide ((((sV xs).length : Nat) : Int) > 16)) (false) (h41) fun Al W I => h0c I (fun gk fr bx gs => ∃ (U900 : Nat → Value) (i : Nat), fr = (.v (.agg #[vI f, vI a, vI g, vI r, vS (sV xs) p c]) :: .p 0 0 :: .v (U900 2) :: .p 1 0 :: .v (.bool (decide (IsFm f))) :: .v (vI (i : Int)) :: sw U900 6 13 (.v (.bool false) :: sw U900 20 17 (.v (.bool false) :: sw U900 38 3 (.v (.bool false) :: sw U900 42 16 []))) : List SV) ∧ bx = [⟨25, [.v (vI f), .v (vI a), .v (vI g), .v (vI r), .v (vS (sV xs) p c)], false⟩, ⟨78, [.v (vI (F.size : Int)), .v (vI (F.E : Int)), .v (vI (F.F : Int)), .v (vI F.g.rad), .v (vI F.g.digs), .v (vI F.g.lo), .v (vI F.g.hi), .v (.bool F.g.grad), .v (vI (F.fam : Int))], false⟩] ∧ gs = [rdvF p (sV xs)] ∧ (gk + i = xs.length) ∧ (∀ s, s ∈ xs.take i → s.size = F.size)) xs.length (fun Al W U I => ⟨_, ⟨U, 0, rfl, rfl, rfl, (by omega), (fun s h => by cases h)⟩, I.pick [0]⟩) ?_
       rintro J0 gk0 _ _ _ ⟨U900, i, rfl, rfl, rfl, hgk, hall⟩ hJ0 Al W I
       rcases bTF (decide ((i : Int) < (((sV xs).length : Nat) : Int))) with f46 | f46
       · refine zb I 46 (decide ((i : Int) < (((sV xs).length : Nat) : Int))) (true) (f46) fun Al W I => ?_
         by_cases hz : ∀ s, xs[i]? = some s → s.size = F.size
         · obtain ⟨s, hs, hsm, hst, hsz⟩ := HX i (by have := oTr f46; omega)
           refine zd [] I fun Al W I => zk [0, 1, 2] I fun I => zkx 3 I (.pointer (some (at_ p i))) (fun _ => (d0k (m := i) (n := (sV xs).length) (c := c) g0v hsol (by have := oTr f46; omega))) fun I => zk [6, 7] I fun I => zo 4 I fun I => zx I 53 (fun _ => .string s) (fun Al W I => (b0e (m := i) I.fa.1 c0a hs)) fun Al W I => zk [5] I fun I => zkb 8 I ((s.size : Int) != (F.size : Int)) (false) (bne_eq_false_iff_eq.2 (by have := hsz.1 hz; omega)) fun I => zi I 48 .i64 ((i : Int) + 1) (((i + 1 : Nat) : Int)) ((by rw [show ((i : Int) + 1) = ((i + 1 : Nat) : Int) by omega]; exact IntWalk.i64_in _ (by have := oTr f46; omega))) fun Al W I => a0j I J0 fun Al W U I => hJ0 (gk0 - 1) _ _ _ _ _ ((by have := oTr f46; omega)) ⟨U, i + 1, rfl, rfl, rfl, (by have := oTr f46; omega), (fun s' h => by rw [hst, List.mem_append, List.mem_singleton] at h; rcases h with h | rfl; exact hall s' h; exact hsz.1 hz)⟩ (I.pick [0])
         obtain ⟨s, hs, hsm, hst, hsz⟩ := HX i (by have := oTr f46; omega)
         refine zd [] I fun Al W I => zk [0, 1, 2] I fun I => zkx 3 I (.pointer (some (at_ p i))) (fun _ => (d0k (m := i) (n := (sV xs).length) (c := c) g0v hsol (by have := oTr f46; omega))) fun I => zk [6, 7] I fun I => zo 4 I fun I => zx I 53 (fun _ => .string s) (fun Al W I => (b0e (m := i) I.fa.1 c0a hs)) fun Al W I => zk [5] I fun I => zkb 8 I ((s.size : Int) != (F.size : Int)) (true) (bne_iff_ne.2 (by have h9 : ¬ s.size = F.size := fun h => hz (hsz.2 h); omega)) fun I => zret I (v := fun Al => vI 1) fun Al W I => ⟨congrArg (fun x => Ending.returned (vI x)) ?_, I.below⟩
         first | (rw [if_pos hF]) | (rw [if_neg (Classical.not_not.2 hF)]; first | (rw [if_pos hw]) | (rw [if_neg (Classical.not_not.2 hw)]; first | (rw [if_pos hg]) | (rw [if_neg (Classical.not_not.2 hg)]; (rw [if_neg (by have := oFa h41; omega)]; (rw [if_pos (List.any_eq_true.2 ⟨s, hsm, by show ((s.size : Int) != (F.size : Int)) = true; exact bne_iff_ne.2 (by have h9 : ¬ s.size = F.size := fun h => hz (hsz.2 h); omega)⟩)])))))
       refine zb I 46 (decide ((i : Int) < (((sV xs).length : Nat) : Int))) (false) (f46) fun Al W I => zret I (v := fun Al => vI 0) fun Al W I => ⟨congrArg (fun x => Ending.returned (vI x)) ?_, I.below⟩
       first | (rw [if_pos hF]) | (rw [if_neg (Classical.not_not.2 hF)]; first | (rw [if_pos hw]) | (rw [if_neg (Classical.not_not.2 hw)]; first | (rw [if_pos hg]) | (rw [if_neg (Classical.not_not.2 hg)]; (rw [if_neg (by have := oFa h41; omega)]; (rw [if_neg (fun h => by obtain ⟨s, hs, h⟩ := List.any_eq_true.1 h; have h1 := bne_iff_ne.1 h; have h2 := hall s (by rw [List.take_of_length_le (by have := oFa f46; omega)]; exact hs); omega)])))))
     by_cases g1 : g < 0
     · refine zb I 22 (decide (g < 0)) (true) (dTr g1) fun Al W I => zret I (v := fun Al => vI 3) fun Al W I => ⟨congrArg (fun x => Ending.returned (vI x)) ?_, I.below⟩
       first | (rw [if_pos hF]) | (rw [if_neg (Classical.not_not.2 hF)]; first | (rw [if_pos hw]) | (rw [if_neg (Classical.not_not.2 hw)]; (rw [if_pos hg])))
     by_cases g2 : 31 < g
     · refine zb I 22 (decide (g < 0)) (false) (dFa g1) fun Al W I => zb I 26 (decide (g > 31)) (true) (dTr g2) fun Al W I => zret I (v := fun Al => vI 3) fun Al W I => ⟨congrArg (fun x => Ending.returned (vI x)) ?_, I.below⟩
       first | (rw [if_pos hF]) | (rw [if_neg (Classical.not_not.2 hF)]; first | (rw [if_pos hw]) | (rw [if_neg (Classical.not_not.2 hw)]; (rw [if_pos hg])))
     by_cases g3 : r < 0
     · refine zb I 22 (decide (g < 0)) (false) (dFa g1) fun Al W I => zb I 26 (decide (g > 31)) (false) (dFa (by omega)) fun Al W I => zb I 31 (decide (r < 0)) (true) (dTr g3) fun Al W I => zret I (v := fun Al => vI 3) fun Al W I => ⟨congrArg (fun x => Ending.returned (vI x)) ?_, I.below⟩
       first | (rw [if_pos hF]) | (rw [if_neg (Classical.not_not.2 hF)]; first | (rw [if_pos hw]) | (rw [if_neg (Classical.not_not.2 hw)]; (rw [if_pos hg])))
     refine zb I 22 (decide (g < 0)) (false) (dFa g1) fun Al W I => zb I 26 (decide (g > 31)) (false) (dFa (by omega)) fun Al W I => zb I 31 (decide (r < 0)) (false) (dFa g3) fun Al W I => zb I 36 (decide (r > 31)) (true) (dTr (by omega)) fun Al W I => zret I (v := fun Al => vI 3) fun Al W I => ⟨congrArg (fun x => Ending.returned (vI x)) ?_, I.below⟩
     first | (rw [if_pos hF]) | (rw [if_neg (Classical.not_not.2 hF)]; first | (rw [if_pos hw]) | (rw [if_neg (Classical.not_not.2 hw)]; (rw [if_pos hg])))
   refine zb I 13 (!(decide (IsFm f))) (false) ((by rw [decide_eq_true hF]; rfl)) fun Al W I => zqd I (fun Al W I => (HW W).out) (show (wayB a) = false from (g0d (by omega))) fun Al W I => zret I (v := fun Al => vI 6) fun Al W I => ⟨congrArg (fun x => Ending.returned (vI x)) ?_, I.below⟩
   first | (rw [if_pos hF]) | (rw [if_neg (Classical.not_not.2 hF)]; (rw [if_pos hw]))
 refine zb I 13 (!(decide (IsFm f))) (true) ((by rw [decide_eq_false hF]; rfl)) fun Al W I => zret I (v := fun Al => vI 6) fun Al W I => ⟨congrArg (fun x => Ending.returned (vI x)) ?_, I.below⟩
 (rw [if_pos hF])
def n0q : List OpT := [⟨1, 0, ⟨#[50]⟩⟩, ⟨11, 0, ByteArray.empty⟩, ⟨5, 0, ByteArray.empty⟩]
theorem e1y : ∃ G z, runR j0c ⟨2, 1, 0, 0, sV []⟩ [] n0q = (⟨2, 1, G, 0, sV [z]⟩, 3, 0) := by
 obtain ⟨hn, hw, hP⟩ := j1b (n := 2) (way := 1) (l := [50]) t0u
 have e1 : j0c ⟨2, 1, 0, 0, sV []⟩ ⟨1, 0, ⟨#[50]⟩⟩ = _ := (if_pos rfl).trans (n1r (g := 0) (vs := sV []) (t := ⟨#[50]⟩) t0u (by decide))
 rw [show sV [] ++ [Value.string (outP 2 1 (a0b ⟨#[50]⟩))] = sV [outP 2 1 [50]] from rfl] at e1
 unfold runR
 rw [if_neg (by decide), if_neg (by decide)]
 generalize outP 2 1 [50] = P at *
 generalize bits .or .i64 0 ((flP' 2 1 (a0b ⟨#[50]⟩) : Nat) : Int) = g1 at *
 have e2 : j0c ⟨2, 1, g1, 0, sV [P]⟩ ⟨11, 0, ByteArray.empty⟩ = _ := ((if_neg (by decide)).trans (if_pos rfl)).trans (n1s (g := g1) (xs := [P]) (s := P) rfl (show 1 < 16 by decide) (Nat.le_refl 1))
 rw [show sV [P] ++ [Value.string P] = sV [P, P] from rfl] at e2
 generalize bits .or .i64 g1 0 = g2 at *
 have e3 : j0c ⟨2, 1, g2, 0, sV [P, P]⟩ ⟨5, 0, ByteArray.empty⟩ = _ := ((if_neg (by decide)).trans ((if_neg (by decide)).trans (if_neg (by decide)))).trans (q1e (g := g2) (j1c hn hw hP hP))
 unfold n0q
 rw [v0r e1, v0r e2, v0r e3]
 exact ⟨_, _, rfl⟩
theorem t0v (G : Int) (z : ByteArray) (hR : runR j0c ⟨2, 1, 0, 0, sV []⟩ [] n0q = (⟨2, 1, G, 0, sV [z]⟩, 3, 0)) (pl : OA) (cl : Nat) (w : World) (hr : RdV w pl (f0u n0q)) (hT : TabW w) : Calls Tryz.prog 9 #[.agg #[.int .i64 2, .int .i64 1, .int .i64 0, .int .i64 0, .slice none 0 0], .slice pl 3 cl] w
 fun en w' => ∃ p c, en = .returned (.tuple #[.agg #[.int .i64 2, .int .i64 1, .int .i64 G, .int .i64 0, .slice p 1 c], .int .i64 3, .int .i64 0]) ∧ OwnV w' w.heap.size 9 p c (sV [z]) ∧ Below w.heap.size w w' := by
 have h := j1a 2 1 0 0 [] n0q none pl 0 cl w (RdV.nil _ _) hr (by decide) (by decide) hT (fun o ho => by
   unfold n0q at ho
   simp only [List.mem_cons, List.not_mem_nil, or_false] at ho
   rcases ho with rfl | rfl | rfl
   · exact .inl rfl
   · exact .inr (.inl rfl)
   · exact .inr (.inr (.inr rfl)))
 rw [hR] at h
 exact h
theorem l0p (w : World) (hT : TabW w) : Calls Tryz.prog 6 #[] w fun en w' => en = .returned (.bool true) ∧ Below w.heap.size w w' := by
 obtain ⟨G, z, hR⟩ := e1y
 have HR := fun pl cl W h h2 => lHd (t0v G z hR pl cl W h h2)
 clear hR
 have I := Inv.start w [tabF] ⟨hT, True.intro⟩
 refine a0c [] I Tryz.func6 ?_
 refine zg I (fun Al W I => (HR (some ⟨(lk 0 Al 0), 0, none⟩) 3 W (c1h (vs := f0u n0q) (I.box 0 30 _)) I.fa.1).out) fun Al V Iv _ hB _ kz => ?_
 rintro _ W ⟨p10, c10, rfl, o10, hb⟩
 refine ⟨_, rfl, kz _ _ hb fun I => ?_⟩
 have I := I.ownv o10
 exact zrb I
theorem l0q (f a g r k : Int) (xs : List ByteArray) (p : OA) (n c : Nat) (w : World) (hr : RdV w p (sV xs)) (hn : n = (sV xs).length) (hl : xs.length ≤ 9223372036854775807) (hT : TabW w) (hP : PowW w) : Calls Tryz.prog 5 #[stV f a g r p n c, .int .i64 k] w
 fun en w' => en = .returned (.bool true) ∧ Below w.heap.size w w' := by
 subst hn
 have HB := fun W h => lHd (l0p W h)
 have HC := fun W h => lHd (o0a f a g r xs p (sV xs).length c W h rfl hl)
 have HS := fun W h h2 h3 => lHd (i1x f a g r k xs p c W h hl h2 h3)
 have HP := fun s W h h2 => lHd (t0s f k s W h h2)
 have HO := @x0i f a g r k xs
 have hE1 : chkS f a g r xs ≠ 0 → f0n f a g r k xs = chkS f a g r xs ∧ (sV (g0w f a g r k xs)).length = 0 := fun h => by
  have h1 : f0n f a g r k xs = chkS f a g r xs := by unfold f0n; rw [if_pos h]
  exact ⟨h1, by unfold g0w; rw [h1, if_neg h]; rfl⟩
 have hE2 : chkS f a g r xs = 0 → (k < 1 ∨ 60 < k) → f0n f a g r k xs = 3 ∧ (sV (g0w f a g r k xs)).length = 0 := fun h h2 => by
  have h1 : f0n f a g r k xs = 3 := by unfold f0n; rw [if_neg (Classical.not_not.2 h), if_pos h2]
  exact ⟨h1, by unfold g0w; rw [h1, if_neg (by decide)]; rfl⟩
 have hE3 : chkS f a g r xs = 0 → ¬ (k < 1 ∨ 60 < k) → f0n f a g r k xs = 0 ∧ (sV (g0w f a g r k xs)).length = (sV xs).length ∧ ∀ i, i < (sV xs).length → ∃ s, (sV xs)[i]? = some (.string s) ∧ s ∈ xs ∧ (sV (g0w f a g r k xs))[i]? = some (.string (b0k f k s)) := fun h h2 => by
  have h1 : f0n f a g r k xs = 0 := by unfold f0n; rw [if_neg (Classical.not_not.2 h), if_neg h2]
  have h3 : g0w f a g r k xs = xs.map (b0k f k) := by unfold g0w; rw [h1, if_pos rfl]
  rw [h3]
  refine ⟨h1, by rw [c0j, c0j, List.length_map], fun i hi => ?_⟩
  rw [c0j] at hi
  exact ⟨xs[i], h0p (List.getElem?_eq_getElem hi), List.getElem_mem hi, h0p (by rw [List.getElem?_map, List.getElem?_eq_getElem hi]; rfl)⟩
 have hsol : f0v p (sV xs).length := hr.solid
 have hxl := c0j xs
 generalize chkS f a g r xs = ck at *
 generalize f0n f a g r k xs = se at *
 generalize sV (g0w f a g r k xs) = sl at *
 have I := Inv.start w [tabF, powF, rdvF p (sV xs)] ⟨hT, hP, hr, True.intro⟩
 refine a0c [.v (.agg #[.int .i64 f, .int .i64 a, .int .i64 g, .int .i64 r, .slice p (sV xs).length c]), .v (.int .i64 k)] I Tryz.func5 ?_
 refine zg I (fun Al W I => (HS W I.fa.2.2.1 I.fa.1 I.fa.2.1).out) fun Al V Iv _ hB _ kz => ?_
 rintro _ W ⟨q14, d14, rfl, o14, hb⟩
 refine ⟨_, rfl, kz _ _ hb fun I => ?_⟩
 have I := I.ownv o14
 refine zq I (fun Al W I => (HC W I.fa.2.2.2.1).out) fun Al W I => ?_
 rcases bTF (ck == 0) with h20 | h20
 · refine zb I 20 (ck == 0) (true) (h20) fun Al W I => ?_
   rcases bTF (decide (k < 1)) with h23 | h23
   · refine zb I 23 (decide (k < 1)) (true) (h23) fun Al W I => zq I (fun Al W I => (HB W I.fa.2.1).out) fun Al W I => zb I 34 (se != 3) (false) ((by rw [bne_eq_false_iff_eq]; exact (hE2 (beq_iff_eq.1 h20) (.inl (oTr h23))).1)) fun Al W I => zq I (fun Al W I => (HB W I.fa.2.1).out) fun Al W I => zb I 44 (se == 3) (true) ((by rw [beq_iff_eq]; exact (hE2 (beq_iff_eq.1 h20) (.inl (oTr h23))).1)) fun Al W I => zb I 49 ((sl.length : Int) == 0) (true) ((by rw [beq_iff_eq]; exact congrArg Int.ofNat (hE2 (beq_iff_eq.1 h20) (.inl (oTr h23))).2)) fun Al W I => zrb I
   refine zb I 23 (decide (k < 1)) (false) (h23) fun Al W I => ?_
   rcases bTF (decide (k > 60)) with h26 | h26
   · refine zb I 26 (decide (k > 60)) (true) (h26) fun Al W I => zq I (fun Al W I => (HB W I.fa.2.1).out) fun Al W I => zb I 34 (se != 3) (false) ((by rw [bne_eq_false_iff_eq]; exact (hE2 (beq_iff_eq.1 h20) (.inr (oTr h26))).1)) fun Al W I => zq I (fun Al W I => (HB W I.fa.2.1).out) fun Al W I => zb I 44 (se == 3) (true) ((by rw [beq_iff_eq]; exact (hE2 (beq_iff_eq.1 h20) (.inr (oTr h26))).1)) fun Al W I => zb I 49 ((sl.length : Int) == 0) (true) ((by rw [beq_iff_eq]; exact congrArg Int.ofNat (hE2 (beq_iff_eq.1 h20) (.inr (oTr h26))).2)) fun Al W I => zrb I
   refine zb I 26 (decide (k > 60)) (false) (h26) fun Al W I => zq I (fun Al W I => (HB W I.fa.2.1).out) fun Al W I => zb I 34 (se != ck) (false) ((by rw [bne_eq_false_iff_eq]; exact ((hE3 (beq_iff_eq.1 h20) (by have := oFa h23; have := oFa h26; omega)).1).trans (beq_iff_eq.1 h20).symm)) fun Al W I => zb I 38 (ck != 0) (false) ((bne_eq_false_iff_eq.2 (beq_iff_eq.1 h20))) fun Al W I => ?_
   obtain ⟨hs1, hs2, hs3⟩ := hE3 (beq_iff_eq.1 h20) (by have := oFa h23; have := oFa h26; omega)
   have hso : f0v q14 sl.length := RdV.solid (OwnV.rd I.fa.1)
   refine zb I 56 ((sl.length : Int) != (((sV xs).length : Nat) : Int)) (false) ((by rw [bne_eq_false_iff_eq, hs2])) fun Al W I => h0c I (fun gk fr bx gs => ∃ (U900 : Nat → Value) (i : Nat), fr = (.v (.agg #[vI f, vI a, vI g, vI r, vS (sV xs) p c]) :: .v (vI k) :: .p 0 0 :: .v undef :: .v (U900 4) :: .v (vS sl q14 d14) :: .v (vI se) :: .v (vI ck) :: .v (vI (i : Int)) :: sw U900 9 19 (.v (.bool false) :: sw U900 29 10 (.v (.bool false) :: sw U900 40 16 (.v (.bool false) :: sw U900 57 28 []))) : List SV) ∧ bx = [⟨25, [.v (vI f), .v (vI a), .v (vI g), .v (vI r), .v (vS (sV xs) p c)], false⟩] ∧ gs = [b0s w.heap.size 9 q14 d14 sl, tabF, powF, rdvF p (sV xs)] ∧ (gk + i = sl.length)) sl.length (fun Al W U I => ⟨_, ⟨U, 0, rfl, rfl, rfl, (by omega)⟩, I.pick [0, 1, 2, 3]⟩) ?_
   rintro J0 gk0 _ _ _ ⟨U900, i, rfl, rfl, rfl, hgk⟩ hJ0 Al W I
   rcases bTF (decide ((i : Int) < (sl.length : Int))) with f60 | f60
   · refine zb I 60 (decide ((i : Int) < (sl.length : Int))) (true) (f60) fun Al W I => ?_
     obtain ⟨s, hx, hsm, hy⟩ := hs3 i (by have := oTr f60; omega)
     refine zd [] I fun Al W I => zk [0, 1, 2, 3, 4] I fun I => zkx 5 I (.pointer (some (at_ p i))) (fun _ => (d0k (m := i) (n := (sV xs).length) (c := c) g0v hsol (by have := oTr f60; omega))) fun I => zk [7] I fun I => zo 6 I fun I => zx I 70 (fun _ => .string s) (fun Al W I => (b0e (m := i) I.fa.2.2.2.1 c0a hx)) fun Al W I => zo 8 I fun I => zq I (fun Al W I => (HP s W I.fa.2.1 I.fa.2.2.1).out) fun Al W I => zk [9, 10, 11, 12, 13] I fun I => zb I 76 ((c0e f k s) != 0) (false) (bne_eq_false_iff_eq.2 (HO (beq_iff_eq.1 h20) (by have := oFa h23; have := oFa h26; omega) s hsm)) fun Al W I => zx I 81 (fun _ => .pointer (some (at_ q14 i))) (fun Al W I => (d0k (m := i) (n := sl.length) (c := d14) g0v hso (by have := oTr f60; omega))) fun Al W I => zx I 82 (fun _ => .string (b0k f k s)) (fun Al W I => (b0e (m := i) (OwnV.rd I.fa.1) c0a hy)) fun Al W I => zbin I 83 _ (fun _ _ _ _ _ => l1k (b0k f k s)) fun Al W I => zi I 62 .i64 ((i : Int) + 1) (((i + 1 : Nat) : Int)) ((by rw [show ((i : Int) + 1) = ((i + 1 : Nat) : Int) by omega]; exact IntWalk.i64_in _ (by have := oTr f60; omega))) fun Al W I => a0j I J0 fun Al W U I => hJ0 (gk0 - 1) _ _ _ _ _ ((by have := oTr f60; omega)) ⟨U, i + 1, rfl, rfl, rfl, (by have := oTr f60; omega)⟩ (I.pick [0, 1, 2, 3])
   refine zb I 60 (decide ((i : Int) < (sl.length : Int))) (false) (f60) fun Al W I => zrb I
 refine zb I 20 (ck == 0) (false) (h20) fun Al W I => zq I (fun Al W I => (HB W I.fa.2.1).out) fun Al W I => zb I 34 (se != ck) (false) ((by rw [bne_eq_false_iff_eq]; exact (hE1 (bnF h20)).1)) fun Al W I => zb I 38 (ck != 0) (true) ((bne_iff_ne.2 (bnF h20))) fun Al W I => zq I (fun Al W I => (HB W I.fa.2.1).out) fun Al W I => zb I 44 (se == ck) (true) ((by rw [beq_iff_eq]; exact (hE1 (bnF h20)).1)) fun Al W I => zb I 49 ((sl.length : Int) == 0) (true) ((by rw [beq_iff_eq]; exact congrArg Int.ofNat (hE1 (bnF h20)).2)) fun Al W I => zrb I
theorem l0f (f a g r : Int) (p : OA) (n c : Nat) (xs : List ByteArray) (k : Int) (w : World) (hr : RdV w p (sV xs)) (hn : n = (sV xs).length) (hl : xs.length ≤ 9223372036854775807) (hT : TabW w) (hP : PowW w) : Calls Tryz.prog 5 #[stV f a g r p n c, .int .i64 k] w
 fun en w' => en = .returned (.bool true) ∧ Below w.heap.size w w' := l0q f a g r k xs p n c w hr hn hl hT hP
end Go.Proofs.YtgbbhlginbmghaaGreatDoor
namespace Go.Proofs.YtgbbhlginbmghaaGreatDoor
open Go.ChangeShapes Go.WideShapes Go.ChangeAt Go.WideMaps Go.WideElems Go.RowKit Go.Slip Go.Joins Go.Deep
theorem t0w {w : World} {x : Addr} {len : Nat} {ss : List ByteArray} (hl : len ≤ ss.length) (hc : ∀ i, i < ss.length → w.cell? (x.add i) = some (.string (ss.getD i ByteArray.empty))) :
 RdV w (some x) (sV (ss.take len)) ∧ (ss.take len).length = len := by
 have h9 : (ss.take len).length = len := by rw [List.length_take]; omega
 refine ⟨⟨fun h0 => ?_, fun j hj => ?_⟩, h9⟩
 · rw [c0j, h9] at h0
   have h1 := hc 0 (by omega)
   refine ⟨rfl, ?_⟩
   have h2 := r0r h1
   simpa [Addr.add] using h2
 · rw [c0j, h9] at hj
   have hjz : j < ss.length := by omega
   have h1 := hc j hjz
   have hspot : x.spot = none := by
    have h2 := r0r (hc 0 (by omega))
    simpa [Addr.add] using h2
   have hat : at_ (some x) j = x.add j := by
    unfold at_ Addr.add
    split
    · rename_i h0; subst h0; cases x; simp_all
    · rfl
   rw [hat, h1, h0p (xs := ss.take len) (i := j) (s := ss[j]) (by rw [List.getElem?_take, if_pos hj, List.getElem?_eq_getElem hjz])]
   simp [List.getD, List.getElem?_eq_getElem hjz]
theorem r0m {H : Type} {enc : TypeId × Value → H} {W : World} {n : Nat} {v : Value} {y : DataW H × List MemPlace} (h : DataW.trod enc Tryz.prog W 0 (fun _ => true) true n 23 [v] = some y) :
 ∃ (p : OA) (n c : Nat) (xs : List ByteArray), v = .slice p n c ∧ RdV W p (sV xs) ∧ n = (sV xs).length ∧ xs.length ≤ 9223372036854775807 := by
 rcases open_strings Tryz.underlying23 Tryz.underlying9 (by kernel_rfl) h with ⟨hcs, _⟩ | ⟨x, l, c, zs, hcs, _, hl, hm, hz, _, hcell, _⟩
 · simp only [List.cons.injEq, and_true] at hcs
   subst hcs
   exact ⟨none, 0, 0, [], rfl, RdV.nil _ _, rfl, Nat.zero_le _⟩
 · simp only [List.cons.injEq, and_true] at hcs
   subst hcs
   have hz1 : zs.length = c := by simpa using hz
   obtain ⟨hr, h9⟩ := t0w (len := l) (by omega) hcell
   unfold maxLen at hm
   exact ⟨some x, l, c, zs.take l, rfl, hr, by rw [c0j, h9], by omega⟩
theorem z0q {H : Type} {enc : TypeId × Value → H} {W : World} {base : Nat} {v : Value} {d : DataW H} {p : List MemPlace} (hv : Value.okWide Tryz.prog W .any base 25 v)
 (h : DataW.Trod enc Tryz.prog W 0 (fun _ => true) true 25 v d p) : ∃ (f a g r : Int) (q : OA) (n c : Nat) (xs : List ByteArray), v = stV f a g r q n c ∧ RdV W q (sV xs) ∧ n = (sV xs).length ∧ xs.length ≤ 9223372036854775807 := by
 obtain ⟨cs, n, rfl, hsz, hf⟩ := v0j Tryz.underlying25 (by kernel_rfl) (by kernel_rfl) hv h
 obtain ⟨c0, c1, c2, c3, c4, rfl⟩ : ∃ c0 c1 c2 c3 c4, cs = #[c0, c1, c2, c3, c4] := by
  obtain ⟨l⟩ := cs
  match l, hsz with
  | [a, b, c, d, e], _ => exact ⟨a, b, c, d, e, rfl⟩
 obtain ⟨_, h0⟩ := hf 0 _ c0 rfl rfl
 obtain ⟨_, h1⟩ := hf 1 _ c1 rfl rfl
 obtain ⟨_, h2⟩ := hf 2 _ c2 rfl rfl
 obtain ⟨_, h3⟩ := hf 3 _ c3 rfl rfl
 obtain ⟨_, h4⟩ := hf 4 _ c4 rfl rfl
 obtain ⟨k0, rfl, _⟩ := k0f h0
 obtain ⟨k1, rfl, _⟩ := k0f h1
 obtain ⟨k2, rfl, _⟩ := k0f h2
 obtain ⟨k3, rfl, _⟩ := k0f h3
 obtain ⟨q, m, c, xs, rfl, r1, l1, b1⟩ := r0m h4
 exact ⟨k0, k1, k2, k3, q, m, c, xs, rfl, r1, l1, b1⟩
end Go.Proofs.YtgbbhlginbmghaaGreatDoor
