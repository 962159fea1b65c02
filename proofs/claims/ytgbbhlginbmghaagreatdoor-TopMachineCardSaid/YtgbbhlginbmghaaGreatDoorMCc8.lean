/- What the machine's operations do: loading, copying, two that come together. -/
import Derived.Deep.LoopGhost
import Derived.Deep.RegionHeld3
import Derived.Lib.Strings
import Derived.Lib.Slices
import Derived.Lib.Small
import Derived.Lib.Walk
import Derived.Lib.BitFns
import Derived.Test.YtgbbhlginbmghaaGreatDoorMCc1
import Derived.Test.YtgbbhlginbmghaaGreatDoorMCc2
import Derived.Test.YtgbbhlginbmghaaGreatDoorMCc3
import Derived.Test.YtgbbhlginbmghaaGreatDoorMCc4
import Derived.Test.YtgbbhlginbmghaaGreatDoorMCc5
import Derived.Test.YtgbbhlginbmghaaGreatDoorMCc6
import Derived.Test.YtgbbhlginbmghaaGreatDoorMCc7
set_option maxHeartbeats 8000000
set_option maxRecDepth 100000
namespace Go.Proofs.YtgbbhlginbmghaaGreatDoor
open Go.RowKit Go.Slip
def d0b (er : Int) (n : Nat) : Int := if er = 0 ∧ n = 16 then 2 else er
def t0f (er : Int) (n : Nat) (fl : Int) : Int := if er = 0 ∧ n = 16 then 0 else fl
theorem l1y (bw B : Nat) (f a g r : Int) (p : OA) (c : Nat) (vs : List Value) (d n : Int) (t : ByteArray) (v : World) (hT : TabW v) (hl : vs.length ≤ 16) (hw : Wkr B bw f a g r p c vs v) : Calls Tryz.prog 76 #[.pointer (some ⟨bw, 0, none⟩), .agg #[.int .i64 d, .int .i64 n, .string t]] v
 fun en w' => ∃ p' c', en = .returned (.tuple #[.int .i64 (t0f (a0j f a (a0a t)) vs.length ((flP' f a (a0a t) : Nat) : Int)), .int .i64 (d0b (a0j f a (a0a t)) vs.length)]) ∧ Wkr B bw f a g r p' c' (if d0b (a0j f a (a0a t)) vs.length = 0 then vs ++ [.string (outP f a (a0a t))] else vs) w' ∧ WkTo bw p p' v w' := by
 have HP := fun W h => lHd (g0u f t a W h)
 have HF := fun bw p c W h => lHd (z0p bw f a g r p vs.length c W h)
 generalize a0j f a (a0a t) = er at *
 generalize ((flP' f a (a0a t) : Nat) : Int) = fl at *
 generalize outP f a (a0a t) = S at *
 have HD := fun bw B p c W h => lHd (t0d bw B f a g r p c vs S fl er W (by omega) h)
 obtain ⟨w, rfl, h0w, I⟩ := Inv.startM hw [tabF] ⟨hT, True.intro⟩ ⟨fun e => by have e : 0 = bw := e; have h1 := hw.pos; have h2 := hw.ge; omega, True.intro⟩
 have hpos := hw.pos
 have hge := hw.ge
 refine o0o [.p 0 0, .v (.agg #[.int .i64 d, .int .i64 n, .string t])] I Tryz.func76 ?_
 refine zd [] I fun Al W I => zk [0, 1, 2, 3, 4, 5, 6, 7, 8, 9, 10, 11] I fun I => zo 12 I fun I => zq I (fun Al W I => (HP W I.fa.2.2.1).out) fun Al W I => zk [13, 14, 15, 16, 17, 18, 19] I fun I => ?_
 rcases bTF (er == 0) with h27 | h27
 · refine zb I 27 (er == 0) (true) (h27) fun Al W I => zq I (fun Al W I => (HF (lk 0 Al 0) p c W (I.box 0 95 _)).out) fun Al W I => ?_
   rcases bTF (decide ((vs.length : Int) = 16)) with h31 | h31
   · refine zb I 31 (decide ((vs.length : Int) = 16)) (true) (h31) fun Al W I => ?_
     have h9 : er = 0 ∧ vs.length = 16 := ⟨oTr h27, by have := oTr h31; omega⟩
     exact zret I fun Al W I => ⟨p, c, by unfold t0f d0b; rw [if_pos h9, if_pos h9], by unfold d0b; rw [if_pos h9, if_neg (by omega)]; exact I.wkE hge hpos rfl, WkTo.of I h0w I.fa.2.1 fun hp => .inl ⟨hp, rfl⟩⟩
   refine zb I 31 (decide ((vs.length : Int) = 16)) (false) (h31) fun Al W I => d0w I [0, 1] 0 95 v.heap.size (fun Al W I => I.fa.2.1.1) (fun Al W I h9 => ⟨fun h => h.2.2 ⟨h9, rfl⟩, fun e => by have h1 := (I.fa.1.blk_lt h9).1; have e : 0 = _ := e; omega, True.intro⟩) (fun Al W I => (HD (lk 0 Al 0) w.heap.size p c W (I.wk 0 hpos (by rw [I.adE 0 (by simp)]; exact hge) rfl)).out.mono fun _ _ => d0z) ?_
   rintro Al W ⟨p36, c36⟩ hat_36 I
   have h9 : ¬ (er = 0 ∧ vs.length = 16) := by (have := oFa h31; omega)
   exact zret I fun Al W I => ⟨p36, c36, by unfold t0f d0b; rw [if_neg h9, if_neg h9], by unfold d0b; rw [if_neg h9]; exact I.wkE hge hpos rfl, WkTo.of I h0w I.fa.2.1 hat_36⟩
 refine zb I 27 (er == 0) (false) (h27) fun Al W I => d0w I [0, 1] 0 95 v.heap.size (fun Al W I => I.fa.2.1.1) (fun Al W I h9 => ⟨fun h => h.2.2 ⟨h9, rfl⟩, fun e => by have h1 := (I.fa.1.blk_lt h9).1; have e : 0 = _ := e; omega, True.intro⟩) (fun Al W I => (HD (lk 0 Al 0) w.heap.size p c W (I.wk 0 hpos (by rw [I.adE 0 (by simp)]; exact hge) rfl)).out.mono fun _ _ => d0z) ?_
 rintro Al W ⟨p36, c36⟩ hat_36 I
 have h9 : ¬ (er = 0 ∧ vs.length = 16) := by (have := oFa h27; omega)
 exact zret I fun Al W I => ⟨p36, c36, by unfold t0f d0b; rw [if_neg h9, if_neg h9], by unfold d0b; rw [if_neg h9]; exact I.wkE hge hpos rfl, WkTo.of I h0w I.fa.2.1 hat_36⟩
theorem h1n (bw B m : Nat) (f a g r : Int) (p : OA) (c : Nat) (vs : List Value) (d n : Int) (t S : ByteArray) (v : World) (hl : vs.length ≤ 16) (hm : vs.length = m + 1) (hS : vs[m]? = some (.string S)) (hw : Wkr B bw f a g r p c vs v) : Calls Tryz.prog 91 #[.pointer (some ⟨bw, 0, none⟩), .agg #[.int .i64 d, .int .i64 n, .string t]] v
 fun en w' => ∃ p' c', en = .returned (.tuple #[.int .i64 0, .int .i64 (d0b 0 vs.length)]) ∧ Wkr B bw f a g r p' c' (if d0b 0 vs.length = 0 then vs ++ [.string S] else vs) w' ∧ WkTo bw p p' v w' := by
 have HF := fun bw p c W h => lHd (z0p bw f a g r p vs.length c W h)
 have HD := fun bw B p c W h => lHd (t0d bw B f a g r p c vs S 0 0 W (by omega) h)
 obtain ⟨w, rfl, h0w, I⟩ := Inv.startM hw [] True.intro True.intro
 have hpos := hw.pos
 have hge := hw.ge
 refine o0o [.p 0 0, .v (.agg #[.int .i64 d, .int .i64 n, .string t])] I Tryz.func91 ?_
 by_cases h7 : vs.length = 16
 · refine zqd I (fun Al W I => (HF (lk 0 Al 0) p c W (I.box 0 95 _)).out) (dTr (by omega)) fun Al W I => zret I (v := fun Al => .tuple #[vI 0, vI 2]) fun Al W I => ?_
   first | exact ⟨p, c, by unfold d0b; rw [if_pos (show (0 : Int) = 0 ∧ vs.length = 16 from ⟨rfl, h7⟩)], by unfold d0b; rw [if_pos (show (0 : Int) = 0 ∧ vs.length = 16 from ⟨rfl, h7⟩), if_neg (by omega)]; exact I.wkE hge hpos rfl, WkTo.of I h0w I.fa.2.1 fun hp => .inl ⟨hp, rfl⟩⟩ | exact ⟨p23, c23, by unfold d0b; rw [if_neg (fun h : (0 : Int) = 0 ∧ vs.length = 16 => h7 h.2)], by unfold d0b; rw [if_neg (fun h : (0 : Int) = 0 ∧ vs.length = 16 => h7 h.2)]; exact I.wkE hge hpos rfl, WkTo.of I h0w I.fa.2.1 hat_23⟩
 refine zqd I (fun Al W I => (HF (lk 0 Al 0) p c W (I.box 0 95 _)).out) (dFa (by omega)) fun Al W I => zcut I none (fun fr bx gs => ∃ (U1 : Nat → Value) (p23 : OA) (c23 : Nat), fr = (.p 0 0 :: .v (.agg #[vI d, vI n, .string t]) :: vu :: .v (U1 3) :: .v (vI 0) :: .v (vI 0) :: .v (U1 6) :: .v (.bool false) :: sw U1 8 18 [] : List SV) ∧ bx = [⟨95, [.v (vI f), .v (vI a), .v (vI g), .v (vI r), .v (vS (if (0 : Int) = 0 then vs ++ [.string S] else vs) p23 c23)], false⟩, ⟨30, [.v (vI d), .v (vI n), .v (.string t)], false⟩] ∧ gs = [b0z w.heap.size 9 p23 c23 (if (0 : Int) = 0 then vs ++ [.string S] else vs), b1k v (offS bw p)] ∧ ((p23.isSome = true → (p.isSome = true ∧ blk p23 = blk p) ∨ v.heap.size ≤ blk p23))) ?_ ?_
 · intro J hJ Al W I
   refine zd [0] I fun Al W I => zk [0, 1, 2, 3, 4, 6, 7, 8, 9] I fun I => zo2 5 10 I (fun I => ?_) (fun I => ?_)
   · refine zn I fun Al W I => zo 10 I fun I => zn I fun Al W I => zk [11] I fun I => zki 12 I .i64 ((vs.length : Int) - 1) ((m : Int)) ((by rw [show (vs.length : Int) - 1 = (m : Int) by omega]; exact iwo)) fun I => zkx 13 I (.pointer (some (at_ p m))) (fun _ => (d0x (m := m) (n := vs.length) (c := c) i0y I.fa.1.rd.solid (by omega))) fun I => zo 14 I fun I => zx I 22 (fun _ => .string S) (fun Al W I => (b0i (m := m) I.fa.1.rd c0n hS)) fun Al W I => zo 15 I fun I => d0w I [0] 0 95 v.heap.size (fun Al W I => I.fa.2.1.1) (fun Al W I h9 => ⟨fun h => h.2.2 ⟨h9, rfl⟩, True.intro⟩) (fun Al W I => (HD (lk 0 Al 0) w.heap.size p c W (I.wk 0 hpos (by rw [I.adE 0 (by simp)]; exact hge) rfl)).out.mono fun _ _ => d0z) ?_
     rintro Al W ⟨p23, c23⟩ hat_23 I
     refine zk [16, 17, 18, 19] I fun I => a0i I J fun Al W U I => hJ _ _ _ _ _ ⟨U, p23, c23, rfl, rfl, rfl, hat_23⟩ (I.pick [0, 1])
   refine zn I fun Al W I => zk [11] I fun I => zki 12 I .i64 ((vs.length : Int) - 1) ((m : Int)) ((by rw [show (vs.length : Int) - 1 = (m : Int) by omega]; exact iwo)) fun I => zo 5 I fun I => zn I fun Al W I => zkx 13 I (.pointer (some (at_ p m))) (fun _ => (d0x (m := m) (n := vs.length) (c := c) i0y I.fa.1.rd.solid (by omega))) fun I => zo 14 I fun I => zx I 22 (fun _ => .string S) (fun Al W I => (b0i (m := m) I.fa.1.rd c0n hS)) fun Al W I => zo 15 I fun I => d0w I [0] 0 95 v.heap.size (fun Al W I => I.fa.2.1.1) (fun Al W I h9 => ⟨fun h => h.2.2 ⟨h9, rfl⟩, True.intro⟩) (fun Al W I => (HD (lk 0 Al 0) w.heap.size p c W (I.wk 0 hpos (by rw [I.adE 0 (by simp)]; exact hge) rfl)).out.mono fun _ _ => d0z) ?_
   rintro Al W ⟨p23, c23⟩ hat_23 I
   refine zk [16, 17, 18, 19] I fun I => a0i I J fun Al W U I => hJ _ _ _ _ _ ⟨U, p23, c23, rfl, rfl, rfl, hat_23⟩ (I.pick [0, 1])
 rintro _ _ _ ⟨U1, p23, c23, rfl, rfl, rfl, hat_23⟩ Al W I
 refine zret I (v := fun Al => .tuple #[vI 0, vI 0]) fun Al W I => ?_
 first | exact ⟨p, c, by unfold d0b; rw [if_pos (show (0 : Int) = 0 ∧ vs.length = 16 from ⟨rfl, h7⟩)], by unfold d0b; rw [if_pos (show (0 : Int) = 0 ∧ vs.length = 16 from ⟨rfl, h7⟩), if_neg (by omega)]; exact I.wkE hge hpos rfl, WkTo.of I h0w I.fa.2.1 fun hp => .inl ⟨hp, rfl⟩⟩ | exact ⟨p23, c23, by unfold d0b; rw [if_neg (fun h : (0 : Int) = 0 ∧ vs.length = 16 => h7 h.2)], by unfold d0b; rw [if_neg (fun h : (0 : Int) = 0 ∧ vs.length = 16 => h7 h.2)]; exact I.wkE hge hpos rfl, WkTo.of I h0w I.fa.2.1 hat_23⟩
abbrev tyF2 : TypeId := 34
theorem l1z (F : FuncId) (hF : ∀ args w, (callFunc F args).run Tryz.prog w = .ok (.enter F args) w) (bw B m cb : Nat) (f a g r : Int) (p : OA) (c : Nat) (vs : List Value) (d n : Int) (t x y S : ByteArray) (fl er : Int) (v : World) (hT : TabW v) (hl : vs.length ≤ 16) (hm : vs.length = m + 2) (hd : vs.drop m = [.string x, .string y]) (h1 : vs.all (·.oneCell') = true)
 (hcb : Bt v cb tyF2 #[.func (.func F) #[] #[]]) (hne : cb ≠ bw)
 (hrow : p.isSome = true → blk p ≠ cb) (hc0 : 0 < cb)
 (HF : ∀ W, TabW W → Hid (Calls Tryz.prog F #[.int .i64 f, .string x, .string y, .int .i64 a] W fun en w' => en = .returned (.tuple #[.string S, .int .i64 fl, .int .i64 er]) ∧ Below W.heap.size W w')) (hw : Wkr B bw f a g r p c vs v) : Calls Tryz.prog 145 #[.pointer (some ⟨bw, 0, none⟩), .agg #[.int .i64 d, .int .i64 n, .string t], .pointer (some ⟨cb, 0, none⟩)] v
 fun en w' => ∃ p' c', en = .returned (.tuple #[.int .i64 fl, .int .i64 er]) ∧ Wkr B bw f a g r p' c' (if er = 0 then vs.take m ++ [.string S] else vs.take m) w' ∧ WkTo bw p p' v w' := by
 have HP := fun bw B p c W h => lHd (q1n bw B m 2 f a g r p c vs W (by omega) hm (by omega) h1 h)
 simp only [hd] at HP
 have HD := fun bw B p c W h => lHd (t0d bw B f a g r p c (vs.take m) S fl er W (by rw [List.length_take]; omega) h)
 have hlt : m = (vs.take m).length := by rw [List.length_take]; omega
 obtain ⟨w, rfl, h0w, I⟩ := Inv.startM2 hw [.func (.func F) #[] #[]] hcb hne hrow [tabF] ⟨hT, True.intro⟩ ⟨fun e => by have e : 0 = bw := e; have h1 := hw.pos; have h2 := hw.ge; omega, True.intro⟩ ⟨(fun e => Nat.ne_of_lt hc0 e), True.intro⟩
 have hpos := hw.pos
 have hge := hw.ge
 refine o0o [.p 0 0, .v (.agg #[.int .i64 d, .int .i64 n, .string t]), .p 1 0] I Tryz.func145 ?_
 refine d0w I [0, 1] 0 95 0 (fun Al W I => Nat.zero_le _) (fun Al W I h9 => ⟨fun h => h.2.2 ⟨h9, rfl⟩, fun e => by have h1 := (I.fa.1.blk_lt h9).1; have e : 0 = _ := e; omega, True.intro⟩) (fun Al W I => (HP (lk 0 Al 0) w.heap.size p c W (I.wk 0 hpos (by rw [I.adE 0 (by simp)]; exact hge) rfl)).out.mono fun _ _ => u1j I.bel.size) ?_
 rintro Al W ⟨q9, d9⟩ hat_9 I
 refine zcut I none (fun fr bx gs => ∃ (U1 : Nat → Value) (p32 : OA) (c32 : Nat), fr = (.p 0 0 :: .v (.agg #[vI d, vI n, .string t]) :: .p 1 0 :: vu :: .v (U1 4) :: .v (vI fl) :: .v (vI er) :: .v (.slice q9 2 d9) :: sw U1 8 27 [] : List SV) ∧ bx = [⟨95, [.v (vI f), .v (vI a), .v (vI g), .v (vI r), .v (vS (if er = 0 then vs.take m ++ [.string S] else vs.take m) p32 c32)], false⟩, ⟨tyF2, [.v (.func (.func F) #[] #[])], false⟩, ⟨30, [.v (vI d), .v (vI n), .v (.string t)], false⟩] ∧ gs = [b0z w.heap.size 9 p32 c32 (if er = 0 then vs.take m ++ [.string S] else vs.take m), b1k v (p1m bw cb p)] ∧ ((p32.isSome = true → (p.isSome = true ∧ blk p32 = blk p) ∨ v.heap.size ≤ blk p32))) ?_ ?_
 · intro J hJ Al W I
   refine zd [0] I fun Al W I => zk [0, 1, 2, 3, 4, 5, 7] I fun I => zkx 8 I (.pointer (some (at_ q9 0))) (fun _ => (d0x (m := 0) (n := 2) (c := d9) i0y I.fa.2.1.rd.solid (by omega))) fun I => zk [10] I fun I => zkx 11 I (.pointer (some (at_ q9 1))) (fun _ => (d0x (m := 1) (n := 2) (c := d9) i0y I.fa.2.1.rd.solid (by omega))) fun I => zk [13, 14, 15, 16] I fun I => zo4 6 9 12 17 I (fun I => ?_) (fun I => ?_) (fun I => ?_) (fun I => ?_)
   · refine zn I fun Al W I => zo3 9 12 17 I (fun I => ?_) (fun I => ?_) (fun I => ?_)
     · refine zx I 19 (fun _ => .string x) (fun Al W I => (b0i (m := 0) I.fa.2.1.rd c0n rfl)) fun Al W I => zo2 12 17 I (fun I => ?_) (fun I => ?_)
       · refine zx I 22 (fun _ => .string y) (fun Al W I => (b0i (m := 1) I.fa.2.1.rd c0n rfl)) fun Al W I => zo 17 I fun I => zn I fun Al W I => zo 18 I fun I => zgf (hf := hF) I (fun Al W I => (HF W I.fa.2.2.2.1).out) fun Al V Iv _ hB _ kz => ?_
         rintro _ W ⟨rfl, hb⟩
         refine ⟨_, rfl, kz _ _ hb fun I => ?_⟩
         refine zk [19, 20, 21] I fun I => zo 22 I fun I => d0w I [1] 0 95 v.heap.size (fun Al W I => I.fa.2.2.1.1) (fun Al W I h9 => ⟨fun h => h.2.2 ⟨h9, rfl⟩, True.intro⟩) (fun Al W I => (HD (lk 0 Al 0) w.heap.size p c W (I.wk 0 hpos (by rw [I.adE 0 (by simp)]; exact hge) rfl)).out.mono fun _ _ => d0z) ?_
         rintro Al W ⟨p32, c32⟩ hat_32 I
         refine zk [23, 24, 25, 26] I fun I => a0i I J fun Al W U I => hJ _ _ _ _ _ ⟨U, p32, c32, rfl, rfl, rfl, hat_32⟩ (I.pick [0, 1])
       refine zn I fun Al W I => zo 12 I fun I => zx I 22 (fun _ => .string y) (fun Al W I => (b0i (m := 1) I.fa.2.1.rd c0n rfl)) fun Al W I => zo 18 I fun I => zgf (hf := hF) I (fun Al W I => (HF W I.fa.2.2.2.1).out) fun Al V Iv _ hB _ kz => ?_
       rintro _ W ⟨rfl, hb⟩
       refine ⟨_, rfl, kz _ _ hb fun I => ?_⟩
       refine zk [19, 20, 21] I fun I => zo 22 I fun I => d0w I [1] 0 95 v.heap.size (fun Al W I => I.fa.2.2.1.1) (fun Al W I h9 => ⟨fun h => h.2.2 ⟨h9, rfl⟩, True.intro⟩) (fun Al W I => (HD (lk 0 Al 0) w.heap.size p c W (I.wk 0 hpos (by rw [I.adE 0 (by simp)]; exact hge) rfl)).out.mono fun _ _ => d0z) ?_
       rintro Al W ⟨p32, c32⟩ hat_32 I
       refine zk [23, 24, 25, 26] I fun I => a0i I J fun Al W U I => hJ _ _ _ _ _ ⟨U, p32, c32, rfl, rfl, rfl, hat_32⟩ (I.pick [0, 1])
     · refine zx I 22 (fun _ => .string y) (fun Al W I => (b0i (m := 1) I.fa.2.1.rd c0n rfl)) fun Al W I => zo2 9 17 I (fun I => ?_) (fun I => ?_)
       · refine zx I 19 (fun _ => .string x) (fun Al W I => (b0i (m := 0) I.fa.2.1.rd c0n rfl)) fun Al W I => zo 17 I fun I => zn I fun Al W I => zo 18 I fun I => zgf (hf := hF) I (fun Al W I => (HF W I.fa.2.2.2.1).out) fun Al V Iv _ hB _ kz => ?_
         rintro _ W ⟨rfl, hb⟩
         refine ⟨_, rfl, kz _ _ hb fun I => ?_⟩
         refine zk [19, 20, 21] I fun I => zo 22 I fun I => d0w I [1] 0 95 v.heap.size (fun Al W I => I.fa.2.2.1.1) (fun Al W I h9 => ⟨fun h => h.2.2 ⟨h9, rfl⟩, True.intro⟩) (fun Al W I => (HD (lk 0 Al 0) w.heap.size p c W (I.wk 0 hpos (by rw [I.adE 0 (by simp)]; exact hge) rfl)).out.mono fun _ _ => d0z) ?_
         rintro Al W ⟨p32, c32⟩ hat_32 I
         refine zk [23, 24, 25, 26] I fun I => a0i I J fun Al W U I => hJ _ _ _ _ _ ⟨U, p32, c32, rfl, rfl, rfl, hat_32⟩ (I.pick [0, 1])
       refine zn I fun Al W I => zo 9 I fun I => zx I 19 (fun _ => .string x) (fun Al W I => (b0i (m := 0) I.fa.2.1.rd c0n rfl)) fun Al W I => zo 18 I fun I => zgf (hf := hF) I (fun Al W I => (HF W I.fa.2.2.2.1).out) fun Al V Iv _ hB _ kz => ?_
       rintro _ W ⟨rfl, hb⟩
       refine ⟨_, rfl, kz _ _ hb fun I => ?_⟩
       refine zk [19, 20, 21] I fun I => zo 22 I fun I => d0w I [1] 0 95 v.heap.size (fun Al W I => I.fa.2.2.1.1) (fun Al W I h9 => ⟨fun h => h.2.2 ⟨h9, rfl⟩, True.intro⟩) (fun Al W I => (HD (lk 0 Al 0) w.heap.size p c W (I.wk 0 hpos (by rw [I.adE 0 (by simp)]; exact hge) rfl)).out.mono fun _ _ => d0z) ?_
       rintro Al W ⟨p32, c32⟩ hat_32 I
       refine zk [23, 24, 25, 26] I fun I => a0i I J fun Al W U I => hJ _ _ _ _ _ ⟨U, p32, c32, rfl, rfl, rfl, hat_32⟩ (I.pick [0, 1])
     refine zn I fun Al W I => m0r I [(9, .v (.string x)), (12, .v (.string y))] (fun Al W I => ?_) (fun KL11 => ?_)
     · refine zo 18 I fun I => zgf (hf := hF) I (fun Al W I => (HF W I.fa.2.2.2.1).out) fun Al V Iv _ hB _ kz => ?_
       rintro _ W ⟨rfl, hb⟩
       refine ⟨_, rfl, kz _ _ hb fun I => ?_⟩
       refine zk [19, 20, 21] I fun I => zo 22 I fun I => d0w I [1] 0 95 v.heap.size (fun Al W I => I.fa.2.2.1.1) (fun Al W I h9 => ⟨fun h => h.2.2 ⟨h9, rfl⟩, True.intro⟩) (fun Al W I => (HD (lk 0 Al 0) w.heap.size p c W (I.wk 0 hpos (by rw [I.adE 0 (by simp)]; exact hge) rfl)).out.mono fun _ _ => d0z) ?_
       rintro Al W ⟨p32, c32⟩ hat_32 I
       refine zk [23, 24, 25, 26] I fun I => a0i I J fun Al W U I => hJ _ _ _ _ _ ⟨U, p32, c32, rfl, rfl, rfl, hat_32⟩ (I.pick [0, 1])
     refine m0r I [(9, .v (.string x))] (fun Al W I => ?_) (fun KL9 => ?_)
     · refine zo 12 I fun I => zx I 22 (fun _ => .string y) (fun Al W I => (b0i (m := 1) I.fa.2.1.rd c0n rfl)) fun Al W I => zuse KL11 I
     refine m0r I [(12, .v (.string y))] (fun Al W I => ?_) (fun KL10 => ?_)
     · refine zo 9 I fun I => zx I 19 (fun _ => .string x) (fun Al W I => (b0i (m := 0) I.fa.2.1.rd c0n rfl)) fun Al W I => zuse KL11 I
     refine zo2 9 12 I (fun I => ?_) (fun I => ?_)
     · refine zx I 19 (fun _ => .string x) (fun Al W I => (b0i (m := 0) I.fa.2.1.rd c0n rfl)) fun Al W I => zuse KL9 I
     refine zx I 22 (fun _ => .string y) (fun Al W I => (b0i (m := 1) I.fa.2.1.rd c0n rfl)) fun Al W I => zuse KL10 I
   · refine zx I 19 (fun _ => .string x) (fun Al W I => (b0i (m := 0) I.fa.2.1.rd c0n rfl)) fun Al W I => zo3 6 12 17 I (fun I => ?_) (fun I => ?_) (fun I => ?_)
     · refine zn I fun Al W I => zo2 12 17 I (fun I => ?_) (fun I => ?_)
       · refine zx I 22 (fun _ => .string y) (fun Al W I => (b0i (m := 1) I.fa.2.1.rd c0n rfl)) fun Al W I => zo 17 I fun I => zn I fun Al W I => zo 18 I fun I => zgf (hf := hF) I (fun Al W I => (HF W I.fa.2.2.2.1).out) fun Al V Iv _ hB _ kz => ?_
         rintro _ W ⟨rfl, hb⟩
         refine ⟨_, rfl, kz _ _ hb fun I => ?_⟩
         refine zk [19, 20, 21] I fun I => zo 22 I fun I => d0w I [1] 0 95 v.heap.size (fun Al W I => I.fa.2.2.1.1) (fun Al W I h9 => ⟨fun h => h.2.2 ⟨h9, rfl⟩, True.intro⟩) (fun Al W I => (HD (lk 0 Al 0) w.heap.size p c W (I.wk 0 hpos (by rw [I.adE 0 (by simp)]; exact hge) rfl)).out.mono fun _ _ => d0z) ?_
         rintro Al W ⟨p32, c32⟩ hat_32 I
         refine zk [23, 24, 25, 26] I fun I => a0i I J fun Al W U I => hJ _ _ _ _ _ ⟨U, p32, c32, rfl, rfl, rfl, hat_32⟩ (I.pick [0, 1])
       refine zn I fun Al W I => zo 12 I fun I => zx I 22 (fun _ => .string y) (fun Al W I => (b0i (m := 1) I.fa.2.1.rd c0n rfl)) fun Al W I => zo 18 I fun I => zgf (hf := hF) I (fun Al W I => (HF W I.fa.2.2.2.1).out) fun Al V Iv _ hB _ kz => ?_
       rintro _ W ⟨rfl, hb⟩
       refine ⟨_, rfl, kz _ _ hb fun I => ?_⟩
       refine zk [19, 20, 21] I fun I => zo 22 I fun I => d0w I [1] 0 95 v.heap.size (fun Al W I => I.fa.2.2.1.1) (fun Al W I h9 => ⟨fun h => h.2.2 ⟨h9, rfl⟩, True.intro⟩) (fun Al W I => (HD (lk 0 Al 0) w.heap.size p c W (I.wk 0 hpos (by rw [I.adE 0 (by simp)]; exact hge) rfl)).out.mono fun _ _ => d0z) ?_
       rintro Al W ⟨p32, c32⟩ hat_32 I
       refine zk [23, 24, 25, 26] I fun I => a0i I J fun Al W U I => hJ _ _ _ _ _ ⟨U, p32, c32, rfl, rfl, rfl, hat_32⟩ (I.pick [0, 1])
     · refine zx I 22 (fun _ => .string y) (fun Al W I => (b0i (m := 1) I.fa.2.1.rd c0n rfl)) fun Al W I => zo2 6 17 I (fun I => ?_) (fun I => ?_)
       · refine zn I fun Al W I => zo 17 I fun I => zn I fun Al W I => zo 18 I fun I => zgf (hf := hF) I (fun Al W I => (HF W I.fa.2.2.2.1).out) fun Al V Iv _ hB _ kz => ?_
         rintro _ W ⟨rfl, hb⟩
         refine ⟨_, rfl, kz _ _ hb fun I => ?_⟩
         refine zk [19, 20, 21] I fun I => zo 22 I fun I => d0w I [1] 0 95 v.heap.size (fun Al W I => I.fa.2.2.1.1) (fun Al W I h9 => ⟨fun h => h.2.2 ⟨h9, rfl⟩, True.intro⟩) (fun Al W I => (HD (lk 0 Al 0) w.heap.size p c W (I.wk 0 hpos (by rw [I.adE 0 (by simp)]; exact hge) rfl)).out.mono fun _ _ => d0z) ?_
         rintro Al W ⟨p32, c32⟩ hat_32 I
         refine zk [23, 24, 25, 26] I fun I => a0i I J fun Al W U I => hJ _ _ _ _ _ ⟨U, p32, c32, rfl, rfl, rfl, hat_32⟩ (I.pick [0, 1])
       refine zn I fun Al W I => zo 6 I fun I => zn I fun Al W I => zo 18 I fun I => zgf (hf := hF) I (fun Al W I => (HF W I.fa.2.2.2.1).out) fun Al V Iv _ hB _ kz => ?_
       rintro _ W ⟨rfl, hb⟩
       refine ⟨_, rfl, kz _ _ hb fun I => ?_⟩
       refine zk [19, 20, 21] I fun I => zo 22 I fun I => d0w I [1] 0 95 v.heap.size (fun Al W I => I.fa.2.2.1.1) (fun Al W I h9 => ⟨fun h => h.2.2 ⟨h9, rfl⟩, True.intro⟩) (fun Al W I => (HD (lk 0 Al 0) w.heap.size p c W (I.wk 0 hpos (by rw [I.adE 0 (by simp)]; exact hge) rfl)).out.mono fun _ _ => d0z) ?_
       rintro Al W ⟨p32, c32⟩ hat_32 I
       refine zk [23, 24, 25, 26] I fun I => a0i I J fun Al W U I => hJ _ _ _ _ _ ⟨U, p32, c32, rfl, rfl, rfl, hat_32⟩ (I.pick [0, 1])
     refine zn I fun Al W I => zo2 6 12 I (fun I => ?_) (fun I => ?_)
     · refine zn I fun Al W I => zo 12 I fun I => zx I 22 (fun _ => .string y) (fun Al W I => (b0i (m := 1) I.fa.2.1.rd c0n rfl)) fun Al W I => zo 18 I fun I => zgf (hf := hF) I (fun Al W I => (HF W I.fa.2.2.2.1).out) fun Al V Iv _ hB _ kz => ?_
       rintro _ W ⟨rfl, hb⟩
       refine ⟨_, rfl, kz _ _ hb fun I => ?_⟩
       refine zk [19, 20, 21] I fun I => zo 22 I fun I => d0w I [1] 0 95 v.heap.size (fun Al W I => I.fa.2.2.1.1) (fun Al W I h9 => ⟨fun h => h.2.2 ⟨h9, rfl⟩, True.intro⟩) (fun Al W I => (HD (lk 0 Al 0) w.heap.size p c W (I.wk 0 hpos (by rw [I.adE 0 (by simp)]; exact hge) rfl)).out.mono fun _ _ => d0z) ?_
       rintro Al W ⟨p32, c32⟩ hat_32 I
       refine zk [23, 24, 25, 26] I fun I => a0i I J fun Al W U I => hJ _ _ _ _ _ ⟨U, p32, c32, rfl, rfl, rfl, hat_32⟩ (I.pick [0, 1])
     refine zx I 22 (fun _ => .string y) (fun Al W I => (b0i (m := 1) I.fa.2.1.rd c0n rfl)) fun Al W I => zo 6 I fun I => zn I fun Al W I => zo 18 I fun I => zgf (hf := hF) I (fun Al W I => (HF W I.fa.2.2.2.1).out) fun Al V Iv _ hB _ kz => ?_
     rintro _ W ⟨rfl, hb⟩
     refine ⟨_, rfl, kz _ _ hb fun I => ?_⟩
     refine zk [19, 20, 21] I fun I => zo 22 I fun I => d0w I [1] 0 95 v.heap.size (fun Al W I => I.fa.2.2.1.1) (fun Al W I h9 => ⟨fun h => h.2.2 ⟨h9, rfl⟩, True.intro⟩) (fun Al W I => (HD (lk 0 Al 0) w.heap.size p c W (I.wk 0 hpos (by rw [I.adE 0 (by simp)]; exact hge) rfl)).out.mono fun _ _ => d0z) ?_
     rintro Al W ⟨p32, c32⟩ hat_32 I
     refine zk [23, 24, 25, 26] I fun I => a0i I J fun Al W U I => hJ _ _ _ _ _ ⟨U, p32, c32, rfl, rfl, rfl, hat_32⟩ (I.pick [0, 1])
   · refine zx I 22 (fun _ => .string y) (fun Al W I => (b0i (m := 1) I.fa.2.1.rd c0n rfl)) fun Al W I => zo3 6 9 17 I (fun I => ?_) (fun I => ?_) (fun I => ?_)
     · refine zn I fun Al W I => zo2 9 17 I (fun I => ?_) (fun I => ?_)
       · refine zx I 19 (fun _ => .string x) (fun Al W I => (b0i (m := 0) I.fa.2.1.rd c0n rfl)) fun Al W I => zo 17 I fun I => zn I fun Al W I => zo 18 I fun I => zgf (hf := hF) I (fun Al W I => (HF W I.fa.2.2.2.1).out) fun Al V Iv _ hB _ kz => ?_
         rintro _ W ⟨rfl, hb⟩
         refine ⟨_, rfl, kz _ _ hb fun I => ?_⟩
         refine zk [19, 20, 21] I fun I => zo 22 I fun I => d0w I [1] 0 95 v.heap.size (fun Al W I => I.fa.2.2.1.1) (fun Al W I h9 => ⟨fun h => h.2.2 ⟨h9, rfl⟩, True.intro⟩) (fun Al W I => (HD (lk 0 Al 0) w.heap.size p c W (I.wk 0 hpos (by rw [I.adE 0 (by simp)]; exact hge) rfl)).out.mono fun _ _ => d0z) ?_
         rintro Al W ⟨p32, c32⟩ hat_32 I
         refine zk [23, 24, 25, 26] I fun I => a0i I J fun Al W U I => hJ _ _ _ _ _ ⟨U, p32, c32, rfl, rfl, rfl, hat_32⟩ (I.pick [0, 1])
       refine zn I fun Al W I => zo 9 I fun I => zx I 19 (fun _ => .string x) (fun Al W I => (b0i (m := 0) I.fa.2.1.rd c0n rfl)) fun Al W I => zo 18 I fun I => zgf (hf := hF) I (fun Al W I => (HF W I.fa.2.2.2.1).out) fun Al V Iv _ hB _ kz => ?_
       rintro _ W ⟨rfl, hb⟩
       refine ⟨_, rfl, kz _ _ hb fun I => ?_⟩
       refine zk [19, 20, 21] I fun I => zo 22 I fun I => d0w I [1] 0 95 v.heap.size (fun Al W I => I.fa.2.2.1.1) (fun Al W I h9 => ⟨fun h => h.2.2 ⟨h9, rfl⟩, True.intro⟩) (fun Al W I => (HD (lk 0 Al 0) w.heap.size p c W (I.wk 0 hpos (by rw [I.adE 0 (by simp)]; exact hge) rfl)).out.mono fun _ _ => d0z) ?_
       rintro Al W ⟨p32, c32⟩ hat_32 I
       refine zk [23, 24, 25, 26] I fun I => a0i I J fun Al W U I => hJ _ _ _ _ _ ⟨U, p32, c32, rfl, rfl, rfl, hat_32⟩ (I.pick [0, 1])
     · refine zx I 19 (fun _ => .string x) (fun Al W I => (b0i (m := 0) I.fa.2.1.rd c0n rfl)) fun Al W I => zo2 6 17 I (fun I => ?_) (fun I => ?_)
       · refine zn I fun Al W I => zo 17 I fun I => zn I fun Al W I => zo 18 I fun I => zgf (hf := hF) I (fun Al W I => (HF W I.fa.2.2.2.1).out) fun Al V Iv _ hB _ kz => ?_
         rintro _ W ⟨rfl, hb⟩
         refine ⟨_, rfl, kz _ _ hb fun I => ?_⟩
         refine zk [19, 20, 21] I fun I => zo 22 I fun I => d0w I [1] 0 95 v.heap.size (fun Al W I => I.fa.2.2.1.1) (fun Al W I h9 => ⟨fun h => h.2.2 ⟨h9, rfl⟩, True.intro⟩) (fun Al W I => (HD (lk 0 Al 0) w.heap.size p c W (I.wk 0 hpos (by rw [I.adE 0 (by simp)]; exact hge) rfl)).out.mono fun _ _ => d0z) ?_
         rintro Al W ⟨p32, c32⟩ hat_32 I
         refine zk [23, 24, 25, 26] I fun I => a0i I J fun Al W U I => hJ _ _ _ _ _ ⟨U, p32, c32, rfl, rfl, rfl, hat_32⟩ (I.pick [0, 1])
       refine zn I fun Al W I => zo 6 I fun I => zn I fun Al W I => zo 18 I fun I => zgf (hf := hF) I (fun Al W I => (HF W I.fa.2.2.2.1).out) fun Al V Iv _ hB _ kz => ?_
       rintro _ W ⟨rfl, hb⟩
       refine ⟨_, rfl, kz _ _ hb fun I => ?_⟩
       refine zk [19, 20, 21] I fun I => zo 22 I fun I => d0w I [1] 0 95 v.heap.size (fun Al W I => I.fa.2.2.1.1) (fun Al W I h9 => ⟨fun h => h.2.2 ⟨h9, rfl⟩, True.intro⟩) (fun Al W I => (HD (lk 0 Al 0) w.heap.size p c W (I.wk 0 hpos (by rw [I.adE 0 (by simp)]; exact hge) rfl)).out.mono fun _ _ => d0z) ?_
       rintro Al W ⟨p32, c32⟩ hat_32 I
       refine zk [23, 24, 25, 26] I fun I => a0i I J fun Al W U I => hJ _ _ _ _ _ ⟨U, p32, c32, rfl, rfl, rfl, hat_32⟩ (I.pick [0, 1])
     refine zn I fun Al W I => zo2 6 9 I (fun I => ?_) (fun I => ?_)
     · refine zn I fun Al W I => zo 9 I fun I => zx I 19 (fun _ => .string x) (fun Al W I => (b0i (m := 0) I.fa.2.1.rd c0n rfl)) fun Al W I => zo 18 I fun I => zgf (hf := hF) I (fun Al W I => (HF W I.fa.2.2.2.1).out) fun Al V Iv _ hB _ kz => ?_
       rintro _ W ⟨rfl, hb⟩
       refine ⟨_, rfl, kz _ _ hb fun I => ?_⟩
       refine zk [19, 20, 21] I fun I => zo 22 I fun I => d0w I [1] 0 95 v.heap.size (fun Al W I => I.fa.2.2.1.1) (fun Al W I h9 => ⟨fun h => h.2.2 ⟨h9, rfl⟩, True.intro⟩) (fun Al W I => (HD (lk 0 Al 0) w.heap.size p c W (I.wk 0 hpos (by rw [I.adE 0 (by simp)]; exact hge) rfl)).out.mono fun _ _ => d0z) ?_
       rintro Al W ⟨p32, c32⟩ hat_32 I
       refine zk [23, 24, 25, 26] I fun I => a0i I J fun Al W U I => hJ _ _ _ _ _ ⟨U, p32, c32, rfl, rfl, rfl, hat_32⟩ (I.pick [0, 1])
     refine zx I 19 (fun _ => .string x) (fun Al W I => (b0i (m := 0) I.fa.2.1.rd c0n rfl)) fun Al W I => zo 6 I fun I => zn I fun Al W I => zo 18 I fun I => zgf (hf := hF) I (fun Al W I => (HF W I.fa.2.2.2.1).out) fun Al V Iv _ hB _ kz => ?_
     rintro _ W ⟨rfl, hb⟩
     refine ⟨_, rfl, kz _ _ hb fun I => ?_⟩
     refine zk [19, 20, 21] I fun I => zo 22 I fun I => d0w I [1] 0 95 v.heap.size (fun Al W I => I.fa.2.2.1.1) (fun Al W I h9 => ⟨fun h => h.2.2 ⟨h9, rfl⟩, True.intro⟩) (fun Al W I => (HD (lk 0 Al 0) w.heap.size p c W (I.wk 0 hpos (by rw [I.adE 0 (by simp)]; exact hge) rfl)).out.mono fun _ _ => d0z) ?_
     rintro Al W ⟨p32, c32⟩ hat_32 I
     refine zk [23, 24, 25, 26] I fun I => a0i I J fun Al W U I => hJ _ _ _ _ _ ⟨U, p32, c32, rfl, rfl, rfl, hat_32⟩ (I.pick [0, 1])
   refine zn I fun Al W I => zo3 6 9 12 I (fun I => ?_) (fun I => ?_) (fun I => ?_)
   · refine zn I fun Al W I => m0r I [(9, .v (.string x)), (12, .v (.string y))] (fun Al W I => ?_) (fun KL15 => ?_)
     · refine zo 18 I fun I => zgf (hf := hF) I (fun Al W I => (HF W I.fa.2.2.2.1).out) fun Al V Iv _ hB _ kz => ?_
       rintro _ W ⟨rfl, hb⟩
       refine ⟨_, rfl, kz _ _ hb fun I => ?_⟩
       refine zk [19, 20, 21] I fun I => zo 22 I fun I => d0w I [1] 0 95 v.heap.size (fun Al W I => I.fa.2.2.1.1) (fun Al W I h9 => ⟨fun h => h.2.2 ⟨h9, rfl⟩, True.intro⟩) (fun Al W I => (HD (lk 0 Al 0) w.heap.size p c W (I.wk 0 hpos (by rw [I.adE 0 (by simp)]; exact hge) rfl)).out.mono fun _ _ => d0z) ?_
       rintro Al W ⟨p32, c32⟩ hat_32 I
       refine zk [23, 24, 25, 26] I fun I => a0i I J fun Al W U I => hJ _ _ _ _ _ ⟨U, p32, c32, rfl, rfl, rfl, hat_32⟩ (I.pick [0, 1])
     refine m0r I [(9, .v (.string x))] (fun Al W I => ?_) (fun KL13 => ?_)
     · refine zo 12 I fun I => zx I 22 (fun _ => .string y) (fun Al W I => (b0i (m := 1) I.fa.2.1.rd c0n rfl)) fun Al W I => zuse KL15 I
     refine m0r I [(12, .v (.string y))] (fun Al W I => ?_) (fun KL14 => ?_)
     · refine zo 9 I fun I => zx I 19 (fun _ => .string x) (fun Al W I => (b0i (m := 0) I.fa.2.1.rd c0n rfl)) fun Al W I => zuse KL15 I
     refine zo2 9 12 I (fun I => ?_) (fun I => ?_)
     · refine zx I 19 (fun _ => .string x) (fun Al W I => (b0i (m := 0) I.fa.2.1.rd c0n rfl)) fun Al W I => zuse KL13 I
     refine zx I 22 (fun _ => .string y) (fun Al W I => (b0i (m := 1) I.fa.2.1.rd c0n rfl)) fun Al W I => zuse KL14 I
   · refine zx I 19 (fun _ => .string x) (fun Al W I => (b0i (m := 0) I.fa.2.1.rd c0n rfl)) fun Al W I => zo2 6 12 I (fun I => ?_) (fun I => ?_)
     · refine zn I fun Al W I => zo 12 I fun I => zx I 22 (fun _ => .string y) (fun Al W I => (b0i (m := 1) I.fa.2.1.rd c0n rfl)) fun Al W I => zo 18 I fun I => zgf (hf := hF) I (fun Al W I => (HF W I.fa.2.2.2.1).out) fun Al V Iv _ hB _ kz => ?_
       rintro _ W ⟨rfl, hb⟩
       refine ⟨_, rfl, kz _ _ hb fun I => ?_⟩
       refine zk [19, 20, 21] I fun I => zo 22 I fun I => d0w I [1] 0 95 v.heap.size (fun Al W I => I.fa.2.2.1.1) (fun Al W I h9 => ⟨fun h => h.2.2 ⟨h9, rfl⟩, True.intro⟩) (fun Al W I => (HD (lk 0 Al 0) w.heap.size p c W (I.wk 0 hpos (by rw [I.adE 0 (by simp)]; exact hge) rfl)).out.mono fun _ _ => d0z) ?_
       rintro Al W ⟨p32, c32⟩ hat_32 I
       refine zk [23, 24, 25, 26] I fun I => a0i I J fun Al W U I => hJ _ _ _ _ _ ⟨U, p32, c32, rfl, rfl, rfl, hat_32⟩ (I.pick [0, 1])
     refine zx I 22 (fun _ => .string y) (fun Al W I => (b0i (m := 1) I.fa.2.1.rd c0n rfl)) fun Al W I => zo 6 I fun I => zn I fun Al W I => zo 18 I fun I => zgf (hf := hF) I (fun Al W I => (HF W I.fa.2.2.2.1).out) fun Al V Iv _ hB _ kz => ?_
     rintro _ W ⟨rfl, hb⟩
     refine ⟨_, rfl, kz _ _ hb fun I => ?_⟩
     refine zk [19, 20, 21] I fun I => zo 22 I fun I => d0w I [1] 0 95 v.heap.size (fun Al W I => I.fa.2.2.1.1) (fun Al W I h9 => ⟨fun h => h.2.2 ⟨h9, rfl⟩, True.intro⟩) (fun Al W I => (HD (lk 0 Al 0) w.heap.size p c W (I.wk 0 hpos (by rw [I.adE 0 (by simp)]; exact hge) rfl)).out.mono fun _ _ => d0z) ?_
     rintro Al W ⟨p32, c32⟩ hat_32 I
     refine zk [23, 24, 25, 26] I fun I => a0i I J fun Al W U I => hJ _ _ _ _ _ ⟨U, p32, c32, rfl, rfl, rfl, hat_32⟩ (I.pick [0, 1])
   refine zx I 22 (fun _ => .string y) (fun Al W I => (b0i (m := 1) I.fa.2.1.rd c0n rfl)) fun Al W I => zo2 6 9 I (fun I => ?_) (fun I => ?_)
   · refine zn I fun Al W I => zo 9 I fun I => zx I 19 (fun _ => .string x) (fun Al W I => (b0i (m := 0) I.fa.2.1.rd c0n rfl)) fun Al W I => zo 18 I fun I => zgf (hf := hF) I (fun Al W I => (HF W I.fa.2.2.2.1).out) fun Al V Iv _ hB _ kz => ?_
     rintro _ W ⟨rfl, hb⟩
     refine ⟨_, rfl, kz _ _ hb fun I => ?_⟩
     refine zk [19, 20, 21] I fun I => zo 22 I fun I => d0w I [1] 0 95 v.heap.size (fun Al W I => I.fa.2.2.1.1) (fun Al W I h9 => ⟨fun h => h.2.2 ⟨h9, rfl⟩, True.intro⟩) (fun Al W I => (HD (lk 0 Al 0) w.heap.size p c W (I.wk 0 hpos (by rw [I.adE 0 (by simp)]; exact hge) rfl)).out.mono fun _ _ => d0z) ?_
     rintro Al W ⟨p32, c32⟩ hat_32 I
     refine zk [23, 24, 25, 26] I fun I => a0i I J fun Al W U I => hJ _ _ _ _ _ ⟨U, p32, c32, rfl, rfl, rfl, hat_32⟩ (I.pick [0, 1])
   refine zx I 19 (fun _ => .string x) (fun Al W I => (b0i (m := 0) I.fa.2.1.rd c0n rfl)) fun Al W I => zo 6 I fun I => zn I fun Al W I => zo 18 I fun I => zgf (hf := hF) I (fun Al W I => (HF W I.fa.2.2.2.1).out) fun Al V Iv _ hB _ kz => ?_
   rintro _ W ⟨rfl, hb⟩
   refine ⟨_, rfl, kz _ _ hb fun I => ?_⟩
   refine zk [19, 20, 21] I fun I => zo 22 I fun I => d0w I [1] 0 95 v.heap.size (fun Al W I => I.fa.2.2.1.1) (fun Al W I h9 => ⟨fun h => h.2.2 ⟨h9, rfl⟩, True.intro⟩) (fun Al W I => (HD (lk 0 Al 0) w.heap.size p c W (I.wk 0 hpos (by rw [I.adE 0 (by simp)]; exact hge) rfl)).out.mono fun _ _ => d0z) ?_
   rintro Al W ⟨p32, c32⟩ hat_32 I
   refine zk [23, 24, 25, 26] I fun I => a0i I J fun Al W U I => hJ _ _ _ _ _ ⟨U, p32, c32, rfl, rfl, rfl, hat_32⟩ (I.pick [0, 1])
 rintro _ _ _ ⟨U1, p32, c32, rfl, rfl, rfl, hat_32⟩ Al W I
 exact zret I fun Al W I => ⟨p32, c32, rfl, I.wkE hge hpos rfl, WkTo.of2 I h0w hcb (I.box 1 tyF2 #[.func (.func F) #[] #[]]) I.fa.2.1 hat_32⟩
theorem n0b (F : FuncId) (w : World) : Calls Tryz.prog 78 #[.func (.func F) #[] #[]] w
 fun en w' => ∃ b, en = .returned (.agg #[.int .i64 2, .func (.func 145) #[] #[.pointer (some ⟨b, 0, none⟩)]]) ∧ w.heap.size ≤ b ∧ Bt w' b tyF2 #[.func (.func F) #[] #[]] ∧ Below w.heap.size w w' := by
 have I := Inv.start w [] True.intro
 refine a0c [.v (.func (.func F) #[] #[])] I Tryz.func78 ?_
 refine zbx I 1 34 #[.func (.func F) #[] #[]] fun Al W b hge_b I => zret I fun Al W I => ⟨b, rfl, hge_b, I.fa.1, I.below⟩
def opEs (b1 b2 b3 b4 : Nat) : Array MapEntry := #[⟨.int .i64 1, .agg #[.int .i64 0, .func (.func 76) #[] #[]], 0⟩, ⟨.int .i64 2, .agg #[.int .i64 0, .func (.func 77) #[] #[]], 1⟩, ⟨.int .i64 3, .agg #[.int .i64 2, .func (.func 145) #[] #[.pointer (some ⟨b1, 0, none⟩)]], 2⟩, ⟨.int .i64 4, .agg #[.int .i64 2, .func (.func 145) #[] #[.pointer (some ⟨b2, 0, none⟩)]], 3⟩, ⟨.int .i64 5, .agg #[.int .i64 2, .func (.func 145) #[] #[.pointer (some ⟨b3, 0, none⟩)]], 4⟩, ⟨.int .i64 6, .agg #[.int .i64 2, .func (.func 145) #[] #[.pointer (some ⟨b4, 0, none⟩)]], 5⟩, ⟨.int .i64 7, .agg #[.int .i64 1, .func (.func 82) #[] #[]], 6⟩, ⟨.int .i64 8, .agg #[.int .i64 3, .func (.func 86) #[] #[]], 7⟩, ⟨.int .i64 9, .agg #[.int .i64 1, .func (.func 88) #[] #[]], 8⟩, ⟨.int .i64 10, .agg #[.int .i64 2, .func (.func 90) #[] #[]], 9⟩, ⟨.int .i64 11, .agg #[.int .i64 1, .func (.func 91) #[] #[]], 10⟩, ⟨.int .i64 12, .agg #[.int .i64 1, .func (.func 92) #[] #[]], 11⟩, ⟨.int .i64 13, .agg #[.int .i64 0, .func (.func 93) #[] #[]], 12⟩, ⟨.int .i64 14, .agg #[.int .i64 0, .func (.func 94) #[] #[]], 13⟩, ⟨.int .i64 15, .agg #[.int .i64 0, .func (.func 95) #[] #[]], 14⟩, ⟨.int .i64 16, .agg #[.int .i64 0, .func (.func 96) #[] #[]], 15⟩]
abbrev u1u : TypeId := 154
theorem e0y : Tryz.prog.underlying u1u = some (.map 3 90) := by kernel_rfl
theorem e0o (k n : Int) (fn : Fn) (caps : Nat → Nat → Nat → Nat → Array Value) (hf : ∀ b1 b2 b3 b4, ∃ i, Instr.findNow (.int .i64) (.int .i64 k) (opEs b1 b2 b3 b4).toList 0 = some (some (i, .agg #[.int .i64 n, .func fn #[] (caps b1 b2 b3 b4)]))) (w : World) : Calls Tryz.prog 40 #[.int .i64 k] w
 fun en w' => ∃ b1 b2 b3 b4, en = .returned (.tuple #[.agg #[.int .i64 n, .func fn #[] (caps b1 b2 b3 b4)], .bool true]) ∧ w.heap.size ≤ b1 ∧ Bt w' b1 tyF2 #[.func (.func 11) #[] #[]] ∧ w.heap.size ≤ b2 ∧ Bt w' b2 tyF2 #[.func (.func 79) #[] #[]] ∧ w.heap.size ≤ b3 ∧ Bt w' b3 tyF2 #[.func (.func 80) #[] #[]] ∧ w.heap.size ≤ b4 ∧ Bt w' b4 tyF2 #[.func (.func 81) #[] #[]] ∧ Below w.heap.size w w' := by
 have I := Inv.start w [] True.intro
 refine a0c [.v (.int .i64 k)] I Tryz.func40 ?_
 refine zmkm I 154 fun Al W m7_b m7_ge I => zins I e0y Tryz.underlying3 1 (.agg #[vI 0, .func (.func 76) #[] #[]]) m7_ge (fun Al W I => True.intro) fun Al W I => zins I e0y Tryz.underlying3 2 (.agg #[vI 0, .func (.func 77) #[] #[]]) m7_ge (fun Al W I => True.intro) fun Al W I => zg I (fun Al W I => (n0b 11 W)) fun Al V Iv hzV hB _ kz => ?_
 rintro _ W ⟨b1, rfl, hge1, o1, hb⟩
 have hg1 := Nat.le_trans hzV hge1
 refine ⟨_, rfl, kz _ _ hb fun I => ?_⟩
 have I := I.add (btF b1 tyF2 #[.func (.func 11) #[] #[]]) o1 (fun a ha e => by have h1 := Iv.lt a (hB _ a ha); have h2 : b1 = a := e; have h3 := hge1; omega)
 have I := I.rot1
 refine zins I e0y Tryz.underlying3 3 (.agg #[vI 2, .func (.func 145) #[] #[.pointer (some ⟨b1, 0, none⟩)]]) m7_ge (fun Al W I => ⟨a0v I.fa.1 I.fa.2.1, True.intro⟩) fun Al W I => zg I (fun Al W I => (n0b 79 W)) fun Al V Iv hzV hB _ kz => ?_
 rintro _ W ⟨b2, rfl, hge2, o2, hb⟩
 have hg2 := Nat.le_trans hzV hge2
 refine ⟨_, rfl, kz _ _ hb fun I => ?_⟩
 have I := I.add (btF b2 tyF2 #[.func (.func 79) #[] #[]]) o2 (fun a ha e => by have h1 := Iv.lt a (hB _ a ha); have h2 : b2 = a := e; have h3 := hge2; omega)
 have I := I.rot1
 refine zins I e0y Tryz.underlying3 4 (.agg #[vI 2, .func (.func 145) #[] #[.pointer (some ⟨b2, 0, none⟩)]]) m7_ge (fun Al W I => ⟨a0v I.fa.1 I.fa.2.1, a0v I.fa.1 I.fa.2.2.1, True.intro⟩) fun Al W I => zg I (fun Al W I => (n0b 80 W)) fun Al V Iv hzV hB _ kz => ?_
 rintro _ W ⟨b3, rfl, hge3, o3, hb⟩
 have hg3 := Nat.le_trans hzV hge3
 refine ⟨_, rfl, kz _ _ hb fun I => ?_⟩
 have I := I.add (btF b3 tyF2 #[.func (.func 80) #[] #[]]) o3 (fun a ha e => by have h1 := Iv.lt a (hB _ a ha); have h2 : b3 = a := e; have h3 := hge3; omega)
 have I := I.rot1
 refine zins I e0y Tryz.underlying3 5 (.agg #[vI 2, .func (.func 145) #[] #[.pointer (some ⟨b3, 0, none⟩)]]) m7_ge (fun Al W I => ⟨a0v I.fa.1 I.fa.2.1, a0v I.fa.1 I.fa.2.2.1, a0v I.fa.1 I.fa.2.2.2.1, True.intro⟩) fun Al W I => zg I (fun Al W I => (n0b 81 W)) fun Al V Iv hzV hB _ kz => ?_
 rintro _ W ⟨b4, rfl, hge4, o4, hb⟩
 have hg4 := Nat.le_trans hzV hge4
 refine ⟨_, rfl, kz _ _ hb fun I => ?_⟩
 have I := I.add (btF b4 tyF2 #[.func (.func 81) #[] #[]]) o4 (fun a ha e => by have h1 := Iv.lt a (hB _ a ha); have h2 : b4 = a := e; have h3 := hge4; omega)
 have I := I.rot1
 refine zins I e0y Tryz.underlying3 6 (.agg #[vI 2, .func (.func 145) #[] #[.pointer (some ⟨b4, 0, none⟩)]]) m7_ge (fun Al W I => ⟨a0v I.fa.1 I.fa.2.1, a0v I.fa.1 I.fa.2.2.1, a0v I.fa.1 I.fa.2.2.2.1, a0v I.fa.1 I.fa.2.2.2.2.1, True.intro⟩) fun Al W I => zins I e0y Tryz.underlying3 7 (.agg #[vI 1, .func (.func 82) #[] #[]]) m7_ge (fun Al W I => ⟨a0v I.fa.1 I.fa.2.1, a0v I.fa.1 I.fa.2.2.1, a0v I.fa.1 I.fa.2.2.2.1, a0v I.fa.1 I.fa.2.2.2.2.1, True.intro⟩) fun Al W I => zins I e0y Tryz.underlying3 8 (.agg #[vI 3, .func (.func 86) #[] #[]]) m7_ge (fun Al W I => ⟨a0v I.fa.1 I.fa.2.1, a0v I.fa.1 I.fa.2.2.1, a0v I.fa.1 I.fa.2.2.2.1, a0v I.fa.1 I.fa.2.2.2.2.1, True.intro⟩) fun Al W I => zins I e0y Tryz.underlying3 9 (.agg #[vI 1, .func (.func 88) #[] #[]]) m7_ge (fun Al W I => ⟨a0v I.fa.1 I.fa.2.1, a0v I.fa.1 I.fa.2.2.1, a0v I.fa.1 I.fa.2.2.2.1, a0v I.fa.1 I.fa.2.2.2.2.1, True.intro⟩) fun Al W I => zins I e0y Tryz.underlying3 10 (.agg #[vI 2, .func (.func 90) #[] #[]]) m7_ge (fun Al W I => ⟨a0v I.fa.1 I.fa.2.1, a0v I.fa.1 I.fa.2.2.1, a0v I.fa.1 I.fa.2.2.2.1, a0v I.fa.1 I.fa.2.2.2.2.1, True.intro⟩) fun Al W I => zins I e0y Tryz.underlying3 11 (.agg #[vI 1, .func (.func 91) #[] #[]]) m7_ge (fun Al W I => ⟨a0v I.fa.1 I.fa.2.1, a0v I.fa.1 I.fa.2.2.1, a0v I.fa.1 I.fa.2.2.2.1, a0v I.fa.1 I.fa.2.2.2.2.1, True.intro⟩) fun Al W I => zins I e0y Tryz.underlying3 12 (.agg #[vI 1, .func (.func 92) #[] #[]]) m7_ge (fun Al W I => ⟨a0v I.fa.1 I.fa.2.1, a0v I.fa.1 I.fa.2.2.1, a0v I.fa.1 I.fa.2.2.2.1, a0v I.fa.1 I.fa.2.2.2.2.1, True.intro⟩) fun Al W I => zins I e0y Tryz.underlying3 13 (.agg #[vI 0, .func (.func 93) #[] #[]]) m7_ge (fun Al W I => ⟨a0v I.fa.1 I.fa.2.1, a0v I.fa.1 I.fa.2.2.1, a0v I.fa.1 I.fa.2.2.2.1, a0v I.fa.1 I.fa.2.2.2.2.1, True.intro⟩) fun Al W I => zins I e0y Tryz.underlying3 14 (.agg #[vI 0, .func (.func 94) #[] #[]]) m7_ge (fun Al W I => ⟨a0v I.fa.1 I.fa.2.1, a0v I.fa.1 I.fa.2.2.1, a0v I.fa.1 I.fa.2.2.2.1, a0v I.fa.1 I.fa.2.2.2.2.1, True.intro⟩) fun Al W I => zins I e0y Tryz.underlying3 15 (.agg #[vI 0, .func (.func 95) #[] #[]]) m7_ge (fun Al W I => ⟨a0v I.fa.1 I.fa.2.1, a0v I.fa.1 I.fa.2.2.1, a0v I.fa.1 I.fa.2.2.2.1, a0v I.fa.1 I.fa.2.2.2.2.1, True.intro⟩) fun Al W I => zins I e0y Tryz.underlying3 16 (.agg #[vI 0, .func (.func 96) #[] #[]]) m7_ge (fun Al W I => ⟨a0v I.fa.1 I.fa.2.1, a0v I.fa.1 I.fa.2.2.1, a0v I.fa.1 I.fa.2.2.2.1, a0v I.fa.1 I.fa.2.2.2.2.1, True.intro⟩) fun Al W I => zx I 26 (fun _ => .tuple #[.agg #[vI n, .func fn #[] (caps b1 b2 b3 b4)], .bool true]) (fun Al W I => (s1r e0y Tryz.underlying3 (es := opEs b1 b2 b3 b4) (clock := 16) I.fa.1 k (hf b1 b2 b3 b4))) fun Al W I => zret I fun Al W I => ⟨b1, b2, b3, b4, rfl, hg1, I.fa.2.2.2.2.1, hg2, I.fa.2.2.2.1, hg3, I.fa.2.2.1, hg4, I.fa.2.1, I.below⟩
abbrev stV (f a g r : Int) (p : OA) (n c : Nat) : Value := .agg #[.int .i64 f, .int .i64 a, .int .i64 g, .int .i64 r, .slice p n c]
theorem i0s (f a g r : Int) (p : OA) (n c : Nat) (vs : List Value) (w : World) (hr : RdV w p vs) (hn : n = vs.length) (hl : vs.length ≤ 4000000000) (h1 : vs.all (·.oneCell') = true) :
 Calls Tryz.prog 17 #[stV f a g r p n c] w fun en w' => ∃ q d, en = .returned (stV f a g r q n d) ∧ OwnV w' w.heap.size 9 q d vs ∧ Below w.heap.size w w' := by
 have HC := fun W h => lHd (q0r p n c vs W h hn hl h1)
 have I := Inv.start w [rdvF p vs] ⟨hr, True.intro⟩
 refine a0c [.v (.agg #[.int .i64 f, .int .i64 a, .int .i64 g, .int .i64 r, .slice p n c])] I Tryz.func17 ?_
 refine zg I (fun Al W I => (HC W I.fa.1).out) fun Al V Iv hzV hB _ kz => ?_
 rintro _ W ⟨q5, d5, rfl, o5, hb⟩
 refine ⟨_, rfl, kz _ _ hb fun I => ?_⟩
 have I := I.ownv o5
 exact zret I fun Al W I => ⟨q5, d5, rfl, I.fa.1, I.below⟩
structure St where
 f : Int
 a : Int
 g : Int
 r : Int
 vs : List Value
def h0i (need : Nat) (s : St) (fl er : Int) (us : List Value) : St × Int :=
 if s.vs.length < need then (s, 5) else if er ≠ 0 then (s, er) else if bits .and .i64 fl s.r ≠ 0 then ({s with g := bits .or .i64 s.g fl}, 4) else ({s with g := bits .or .i64 s.g fl, vs := us}, 0)
def m0o (w : World) (p : OA) (c : Nat) (R : St × Int) (en : Ending) (w' : World) : Prop :=
 (R.2 = 0 → ∃ p' c', en = .returned (.tuple #[stV R.1.f R.1.a R.1.g R.1.r p' R.1.vs.length c', .int .i64 R.2]) ∧ OwnV w' w.heap.size 9 p' c' R.1.vs) ∧ (R.2 ≠ 0 → en = .returned (.tuple #[stV R.1.f R.1.a R.1.g R.1.r p R.1.vs.length c, .int .i64 R.2])) ∧ Below w.heap.size w w'
abbrev opV (d n : Int) (t : ByteArray) : Value := .agg #[.int .i64 d, .int .i64 n, .string t]
theorem m0d {need : Nat} {s : St} {fl er : Int} {us : List Value} (h : s.vs.length < need) : h0i need s fl er us = (s, 5) := if_pos h
theorem l0k {need : Nat} {s : St} {fl er : Int} {us : List Value} (h : ¬ s.vs.length < need) (h2 : er ≠ 0) : h0i need s fl er us = (s, er) := by unfold h0i; rw [if_neg h, if_pos h2]
theorem m0e {need : Nat} {s : St} {fl er : Int} {us : List Value} (h : ¬ s.vs.length < need) (h2 : er = 0) (h3 : bits .and .i64 fl s.r ≠ 0) : h0i need s fl er us = ({s with g := bits .or .i64 s.g fl}, 4) := by unfold h0i; rw [if_neg h, if_neg (fun k => k h2), if_pos h3]
theorem i0t {need : Nat} {s : St} {fl er : Int} {us : List Value} (h : ¬ s.vs.length < need) (h2 : er = 0) (h3 : bits .and .i64 fl s.r = 0) : h0i need s fl er us = ({s with g := bits .or .i64 s.g fl, vs := us}, 0) := by unfold h0i; rw [if_neg h, if_neg (fun k => k h2), if_neg (fun k => k h3)]
theorem q1w (w : World) : Calls Tryz.prog 40 #[.int .i64 1] w fun en w' => en = .returned (.tuple #[.agg #[.int .i64 0, .func (.func 76) #[] #[]], .bool true]) ∧ Below w.heap.size w w' :=
 (e0o 1 0 (.func 76) (fun _ _ _ _ => #[]) (fun _ _ _ _ => ⟨0, by kernel_rfl⟩) w).mono fun _ _ ⟨_, _, _, _, h, h1⟩ => ⟨h, h1.2.2.2.2.2.2.2.2⟩
theorem m1a (w : World) : Calls Tryz.prog 40 #[.int .i64 11] w fun en w' => en = .returned (.tuple #[.agg #[.int .i64 1, .func (.func 91) #[] #[]], .bool true]) ∧ Below w.heap.size w w' :=
 (e0o 11 1 (.func 91) (fun _ _ _ _ => #[]) (fun _ _ _ _ => ⟨10, by kernel_rfl⟩) w).mono fun _ _ ⟨_, _, _, _, h, h1⟩ => ⟨h, h1.2.2.2.2.2.2.2.2⟩
def q1x (F : FuncId) (w : World) (en : Ending) (w' : World) : Prop := ∃ b, en = .returned (.tuple #[.agg #[.int .i64 2, .func (.func 145) #[] #[.pointer (some ⟨b, 0, none⟩)]], .bool true]) ∧ w.heap.size ≤ b ∧ Bt w' b tyF2 #[.func (.func F) #[] #[]] ∧ Below w.heap.size w w'
theorem t1s (w : World) : Calls Tryz.prog 40 #[.int .i64 3] w (q1x 11 w) :=
 (e0o 3 2 (.func 145) (fun b _ _ _ => #[.pointer (some ⟨b, 0, none⟩)]) (fun _ _ _ _ => ⟨2, by kernel_rfl⟩) w).mono fun _ _ ⟨b, _, _, _, h, h1, h2, _, _, _, _, _, _, h3⟩ => ⟨b, h, h1, h2, h3⟩
theorem t1t (w : World) : Calls Tryz.prog 40 #[.int .i64 5] w (q1x 80 w) :=
 (e0o 5 2 (.func 145) (fun _ _ b _ => #[.pointer (some ⟨b, 0, none⟩)]) (fun _ _ _ _ => ⟨4, by kernel_rfl⟩) w).mono fun _ _ ⟨_, _, b, _, h, _, _, _, _, h1, h2, _, _, h3⟩ => ⟨b, h, h1, h2, h3⟩
theorem h1o (s : St) (n : Int) (t : ByteArray) (p : OA) (c : Nat) (w : World) (hT : TabW w) (hr : RdV w p s.vs) (hl : s.vs.length ≤ 16) (h1 : s.vs.all (·.oneCell') = true) :
 Calls Tryz.prog 18 #[stV s.f s.a s.g s.r p s.vs.length c, opV 1 n t] w (m0o w p c (h0i 0 s (t0f (a0j s.f s.a (a0a t)) s.vs.length ((flP' s.f s.a (a0a t) : Nat) : Int)) (d0b (a0j s.f s.a (a0a t)) s.vs.length) (if d0b (a0j s.f s.a (a0a t)) s.vs.length = 0 then s.vs ++ [.string (outP s.f s.a (a0a t))] else s.vs))) := by
 obtain ⟨f, a, g, r, vs⟩ := s
 dsimp only at *
 have HL := fun p c W h => lHd (i0s f a g r p vs.length c vs W h rfl (by omega) h1)
 unfold m0o
 have hpos : 0 < w.heap.size := hT.2
 have HX := fun bw B p c W h h2 => lHd (l1y bw B f a g r p c vs 1 n t W h hl h2)
 generalize t0f (a0j f a (a0a t)) vs.length ((flP' f a (a0a t) : Nat) : Int) = fl at *
 generalize d0b (a0j f a (a0a t)) vs.length = er at *
 generalize (if er = 0 then vs ++ [Value.string (outP f a (a0a t))] else vs) = us at *
 have HO := fun W => lHd (q1w W)
 have I := Inv.start w [tabF, rdvF p vs] ⟨hT, hr, True.intro⟩
 refine a0c [.v (.agg #[.int .i64 f, .int .i64 a, .int .i64 g, .int .i64 r, .slice p vs.length c]), .v (.agg #[.int .i64 1, .int .i64 n, .string t])] I Tryz.func18 ?_
 refine zq I (fun Al W I => (HO W).out) fun Al W I => ?_
 rcases bTF (decide ((vs.length : Int) < 0)) with h25 | h25
 · refine zb I 25 (decide ((vs.length : Int) < 0)) (true) (h25) fun Al W I => zret I (v := fun Al => .tuple #[.agg #[vI f, vI a, vI g, vI r, .slice p vs.length c], vI 5]) fun Al W I => ?_
   (rw [m0d (s := ⟨f, a, g, r, vs⟩) (fl := fl) (er := er) (by have := oTr h25; show vs.length < _; omega)]; exact ⟨fun h => absurd h (show ¬ (5 : Int) = 0 by decide), fun _ => rfl, I.below⟩)
 refine zb I 25 (decide ((vs.length : Int) < 0)) (false) (h25) fun Al W I => zg I (fun Al W I => (HL p c W I.fa.2.1).out) fun Al V Iv hzV hB _ kz => ?_
 rintro _ W ⟨q28, d28, rfl, o28, hb⟩
 have hq28 := fun (h : q28.isSome = true) => (o28.blk_lt h).1
 have hrq := fun (h : 0 < vs.length) => Iv.fa.2.1.lt h
 refine ⟨_, rfl, kz _ _ hb fun I => ?_⟩
 have I := I.ownv o28
 refine d0w I [0, 1] 4 95 0 (fun Al W I => Nat.zero_le _) (fun Al W I h9 => ⟨fun e => by have h1 := (I.fa.1.blk_lt h9).1; have e : 0 = _ := e; omega, fun h => by have h2 := hrq h.1; have h3 := hq28 h9; have h4 : blk p = blk q28 := h.2; omega, True.intro⟩) (fun Al W I => (HX (lk 0 Al 4) w.heap.size q28 d28 W I.fa.2.1 (I.wk 4 hpos (I.geB 4) rfl)).out.mono fun _ _ => d0z) ?_
 rintro Al W ⟨p36, c36⟩ hat_36 I
 rcases bTF (er != 0) with h40 | h40
 · refine zb I 40 (er != 0) (true) (h40) fun Al W I => zret I (v := fun Al => .tuple #[.agg #[vI f, vI a, vI g, vI r, .slice p vs.length c], vI er]) fun Al W I => ?_
   (rw [l0k (s := ⟨f, a, g, r, vs⟩) (fl := fl) (er := er) (by have := oFa h25; show ¬ vs.length < _; omega) (bne_iff_ne.1 h40)]; exact ⟨fun h => absurd h (bne_iff_ne.1 h40), fun _ => rfl, I.below⟩)
 refine zb I 40 (er != 0) (false) (h40) fun Al W I => zbin I 46 _ (fun _ _ _ _ _ => h0v .i64 (fl) (r) ((bits .and .i64 fl r)) (rfl)) fun Al W I => ?_
 rcases bTF ((bits .and .i64 fl r) != 0) with h47 | h47
 · refine zb I 47 ((bits .and .i64 fl r) != 0) (true) (h47) fun Al W I => zbin I 51 _ (fun _ _ _ _ _ => m0h .i64 (g) (fl) ((bits .or .i64 g fl)) (rfl)) fun Al W I => zret I (v := fun Al => .tuple #[.agg #[vI f, vI a, vI (bits .or .i64 g fl), vI r, .slice p vs.length c], vI 4]) fun Al W I => ?_
   (rw [m0e (s := ⟨f, a, g, r, vs⟩) (fl := fl) (er := er) (by have := oFa h25; show ¬ vs.length < _; omega) (bne_eq_false_iff_eq.1 h40) (bne_iff_ne.1 h47)]; exact ⟨fun h => absurd h (show ¬ (4 : Int) = 0 by decide), fun _ => rfl, I.below⟩)
 refine zb I 47 ((bits .and .i64 fl r) != 0) (false) (h47) fun Al W I => zbin I 60 _ (fun _ _ _ _ _ => m0h .i64 (g) (fl) ((bits .or .i64 g fl)) (rfl)) fun Al W I => zret I (v := fun Al => .tuple #[.agg #[vI f, vI a, vI (bits .or .i64 g fl), vI r, .slice p36 us.length c36], vI 0]) fun Al W I => ?_
 (rw [i0t (s := ⟨f, a, g, r, vs⟩) (fl := fl) (er := er) (by have := oFa h25; show ¬ vs.length < _; omega) (bne_eq_false_iff_eq.1 h40) (bne_eq_false_iff_eq.1 h47)]; exact ⟨fun _ => ⟨p36, c36, rfl, I.fa.1⟩, fun h => absurd rfl h, I.below⟩)
theorem c1k (s : St) (n : Int) (t : ByteArray) (S : ByteArray) (p : OA) (c : Nat) (w : World) (hT : TabW w) (hr : RdV w p s.vs) (hl : s.vs.length ≤ 16) (h1 : s.vs.all (·.oneCell') = true) (hS : 1 ≤ s.vs.length → s.vs[s.vs.length - 1]? = some (.string S)) :
 Calls Tryz.prog 18 #[stV s.f s.a s.g s.r p s.vs.length c, opV 11 n t] w (m0o w p c (h0i 1 s 0 (d0b 0 s.vs.length) (if d0b 0 s.vs.length = 0 then s.vs ++ [.string S] else s.vs))) := by
 obtain ⟨f, a, g, r, vs⟩ := s
 dsimp only at *
 have HL := fun p c W h => lHd (i0s f a g r p vs.length c vs W h rfl (by omega) h1)
 unfold m0o
 have hpos : 0 < w.heap.size := hT.2
 have HX := fun bw B p c W (h : 1 ≤ vs.length) h2 => lHd (h1n bw B (vs.length - 1) f a g r p c vs 11 n t S W hl (by omega) (hS h) h2)
 generalize d0b 0 vs.length = er at *
 generalize (if er = 0 then vs ++ [Value.string S] else vs) = us at *
 have HO := fun W => lHd (m1a W)
 have I := Inv.start w [tabF, rdvF p vs] ⟨hT, hr, True.intro⟩
 refine a0c [.v (.agg #[.int .i64 f, .int .i64 a, .int .i64 g, .int .i64 r, .slice p vs.length c]), .v (.agg #[.int .i64 11, .int .i64 n, .string t])] I Tryz.func18 ?_
 refine zq I (fun Al W I => (HO W).out) fun Al W I => ?_
 rcases bTF (decide ((vs.length : Int) < 1)) with h25 | h25
 · refine zb I 25 (decide ((vs.length : Int) < 1)) (true) (h25) fun Al W I => zret I (v := fun Al => .tuple #[.agg #[vI f, vI a, vI g, vI r, .slice p vs.length c], vI 5]) fun Al W I => ?_
   (rw [m0d (s := ⟨f, a, g, r, vs⟩) (fl := 0) (er := er) (by have := oTr h25; show vs.length < _; omega)]; exact ⟨fun h => absurd h (show ¬ (5 : Int) = 0 by decide), fun _ => rfl, I.below⟩)
 refine zb I 25 (decide ((vs.length : Int) < 1)) (false) (h25) fun Al W I => zg I (fun Al W I => (HL p c W I.fa.2.1).out) fun Al V Iv hzV hB _ kz => ?_
 rintro _ W ⟨q28, d28, rfl, o28, hb⟩
 have hq28 := fun (h : q28.isSome = true) => (o28.blk_lt h).1
 have hrq := fun (h : 0 < vs.length) => Iv.fa.2.1.lt h
 refine ⟨_, rfl, kz _ _ hb fun I => ?_⟩
 have I := I.ownv o28
 refine d0w I [0, 1] 4 95 0 (fun Al W I => Nat.zero_le _) (fun Al W I h9 => ⟨fun e => by have h1 := (I.fa.1.blk_lt h9).1; have e : 0 = _ := e; omega, fun h => by have h2 := hrq h.1; have h3 := hq28 h9; have h4 : blk p = blk q28 := h.2; omega, True.intro⟩) (fun Al W I => (HX (lk 0 Al 4) w.heap.size q28 d28 W (by have := oFa h25; omega) (I.wk 4 hpos (I.geB 4) rfl)).out.mono fun _ _ => d0z) ?_
 rintro Al W ⟨p36, c36⟩ hat_36 I
 rcases bTF (er != 0) with h40 | h40
 · refine zb I 40 (er != 0) (true) (h40) fun Al W I => zret I (v := fun Al => .tuple #[.agg #[vI f, vI a, vI g, vI r, .slice p vs.length c], vI er]) fun Al W I => ?_
   (rw [l0k (s := ⟨f, a, g, r, vs⟩) (fl := 0) (er := er) (by have := oFa h25; show ¬ vs.length < _; omega) (bne_iff_ne.1 h40)]; exact ⟨fun h => absurd h (bne_iff_ne.1 h40), fun _ => rfl, I.below⟩)
 refine zb I 40 (er != 0) (false) (h40) fun Al W I => zbin I 46 _ (fun _ _ _ _ _ => h0v .i64 (0) (r) ((bits .and .i64 0 r)) (rfl)) fun Al W I => ?_
 rcases bTF ((bits .and .i64 0 r) != 0) with h47 | h47
 · refine zb I 47 ((bits .and .i64 0 r) != 0) (true) (h47) fun Al W I => zbin I 51 _ (fun _ _ _ _ _ => m0h .i64 (g) (0) ((bits .or .i64 g 0)) (rfl)) fun Al W I => zret I (v := fun Al => .tuple #[.agg #[vI f, vI a, vI (bits .or .i64 g 0), vI r, .slice p vs.length c], vI 4]) fun Al W I => ?_
   (rw [m0e (s := ⟨f, a, g, r, vs⟩) (fl := 0) (er := er) (by have := oFa h25; show ¬ vs.length < _; omega) (bne_eq_false_iff_eq.1 h40) (bne_iff_ne.1 h47)]; exact ⟨fun h => absurd h (show ¬ (4 : Int) = 0 by decide), fun _ => rfl, I.below⟩)
 refine zb I 47 ((bits .and .i64 0 r) != 0) (false) (h47) fun Al W I => zbin I 60 _ (fun _ _ _ _ _ => m0h .i64 (g) (0) ((bits .or .i64 g 0)) (rfl)) fun Al W I => zret I (v := fun Al => .tuple #[.agg #[vI f, vI a, vI (bits .or .i64 g 0), vI r, .slice p36 us.length c36], vI 0]) fun Al W I => ?_
 (rw [i0t (s := ⟨f, a, g, r, vs⟩) (fl := 0) (er := er) (by have := oFa h25; show ¬ vs.length < _; omega) (bne_eq_false_iff_eq.1 h40) (bne_eq_false_iff_eq.1 h47)]; exact ⟨fun _ => ⟨p36, c36, rfl, I.fa.1⟩, fun h => absurd rfl h, I.below⟩)
theorem z0s (s : St) (d n : Int) (t : ByteArray) (F : FuncId) (hF : ∀ args w, (callFunc F args).run Tryz.prog w = .ok (.enter F args) w) (HO : ∀ W, Hid (Calls Tryz.prog 40 #[.int .i64 d] W (q1x F W))) (x y S : ByteArray) (fl er : Int) (p : OA) (c : Nat) (w : World) (hT : TabW w) (hr : RdV w p s.vs) (hl : s.vs.length ≤ 16) (h1 : s.vs.all (·.oneCell') = true) (hd : 2 ≤ s.vs.length → s.vs.drop (s.vs.length - 2) = [.string x, .string y]) (HF : ∀ W, TabW W → Hid (Calls Tryz.prog F #[.int .i64 s.f, .string x, .string y, .int .i64 s.a] W fun en w' => en = .returned (.tuple #[.string S, .int .i64 fl, .int .i64 er]) ∧ Below W.heap.size W w')) :
 Calls Tryz.prog 18 #[stV s.f s.a s.g s.r p s.vs.length c, opV d n t] w (m0o w p c (h0i 2 s fl er (if er = 0 then s.vs.take (s.vs.length - 2) ++ [.string S] else s.vs.take (s.vs.length - 2)))) := by
 obtain ⟨f, a, g, r, vs⟩ := s
 dsimp only at *
 have HL := fun p c W h => lHd (i0s f a g r p vs.length c vs W h rfl (by omega) h1)
 unfold m0o
 have hpos : 0 < w.heap.size := hT.2
 have HX := fun bw B cb p c W h (h3 : 2 ≤ vs.length) h5 h6 h7 h8 h2 => lHd (l1z F hF bw B (vs.length - 2) cb f a g r p c vs d n t x y S fl er W h hl (by omega) (hd h3) h1 h5 h6 h7 h8 HF h2)
 generalize (if er = 0 then vs.take (vs.length - 2) ++ [Value.string S] else vs.take (vs.length - 2)) = us at *
 have I := Inv.start w [tabF, rdvF p vs] ⟨hT, hr, True.intro⟩
 refine a0c [.v (.agg #[.int .i64 f, .int .i64 a, .int .i64 g, .int .i64 r, .slice p vs.length c]), .v (.agg #[.int .i64 d, .int .i64 n, .string t])] I Tryz.func18 ?_
 refine zg I (fun Al W I => (HO W).out) fun Al V Iv hzV hB _ kz => ?_
 rintro _ W ⟨cb, rfl, hge, o14, hb⟩
 have hgc := Nat.le_trans hzV hge
 refine ⟨_, rfl, kz _ _ hb fun I => ?_⟩
 have I := I.add (btF cb tyF2 #[.func (.func F) #[] #[]]) o14 (fun a ha e => by have h1 := Iv.lt a (hB _ a ha); have h2 : cb = a := e; have h3 := hge; omega)
 rcases bTF (decide ((vs.length : Int) < 2)) with h25 | h25
 · refine zb I 25 (decide ((vs.length : Int) < 2)) (true) (h25) fun Al W I => zret I (v := fun Al => .tuple #[.agg #[vI f, vI a, vI g, vI r, .slice p vs.length c], vI 5]) fun Al W I => ?_
   (rw [m0d (s := ⟨f, a, g, r, vs⟩) (fl := fl) (er := er) (by have := oTr h25; show vs.length < _; omega)]; exact ⟨fun h => absurd h (show ¬ (5 : Int) = 0 by decide), fun _ => rfl, I.below⟩)
 refine zb I 25 (decide ((vs.length : Int) < 2)) (false) (h25) fun Al W I => zg I (fun Al W I => (HL p c W I.fa.2.2.1).out) fun Al V Iv hzV hB _ kz => ?_
 rintro _ W ⟨q28, d28, rfl, o28, hb⟩
 have hq28 := fun (h : q28.isSome = true) => (o28.blk_lt h).1
 have hrq := fun (h : 0 < vs.length) => Iv.fa.2.2.1.lt h
 refine ⟨_, rfl, kz _ _ hb fun I => ?_⟩
 have I := I.ownv o28
 refine d0w I [0, 1, 2] 4 95 0 (fun Al W I => Nat.zero_le _) (fun Al W I h9 => ⟨fun e => OwnS.far (s := 1) I.fa.1 I.fa.2.1 (by kernel_rfl) h9 (Eq.symm e), fun e => by have h1 := (I.fa.1.blk_lt h9).1; have e : 0 = _ := e; omega, fun h => by have h2 := hrq h.1; have h3 := hq28 h9; have h4 : blk p = blk q28 := h.2; omega, True.intro⟩) (fun Al W I => (HX (lk 0 Al 4) w.heap.size cb q28 d28 W I.fa.2.2.1 (by have := oFa h25; omega) I.fa.2.1 (I.neBt 4 I.fa.2.1) (fun hp e => OwnS.far (s := 1) I.fa.1 I.fa.2.1 (by kernel_rfl) hp e) (by omega) (I.wk 4 hpos (I.geB 4) rfl)).out.mono fun _ _ => d0z) ?_
 rintro Al W ⟨p36, c36⟩ hat_36 I
 rcases bTF (er != 0) with h40 | h40
 · refine zb I 40 (er != 0) (true) (h40) fun Al W I => zret I (v := fun Al => .tuple #[.agg #[vI f, vI a, vI g, vI r, .slice p vs.length c], vI er]) fun Al W I => ?_
   (rw [l0k (s := ⟨f, a, g, r, vs⟩) (fl := fl) (er := er) (by have := oFa h25; show ¬ vs.length < _; omega) (bne_iff_ne.1 h40)]; exact ⟨fun h => absurd h (bne_iff_ne.1 h40), fun _ => rfl, I.below⟩)
 refine zb I 40 (er != 0) (false) (h40) fun Al W I => zbin I 46 _ (fun _ _ _ _ _ => h0v .i64 (fl) (r) ((bits .and .i64 fl r)) (rfl)) fun Al W I => ?_
 rcases bTF ((bits .and .i64 fl r) != 0) with h47 | h47
 · refine zb I 47 ((bits .and .i64 fl r) != 0) (true) (h47) fun Al W I => zbin I 51 _ (fun _ _ _ _ _ => m0h .i64 (g) (fl) ((bits .or .i64 g fl)) (rfl)) fun Al W I => zret I (v := fun Al => .tuple #[.agg #[vI f, vI a, vI (bits .or .i64 g fl), vI r, .slice p vs.length c], vI 4]) fun Al W I => ?_
   (rw [m0e (s := ⟨f, a, g, r, vs⟩) (fl := fl) (er := er) (by have := oFa h25; show ¬ vs.length < _; omega) (bne_eq_false_iff_eq.1 h40) (bne_iff_ne.1 h47)]; exact ⟨fun h => absurd h (show ¬ (4 : Int) = 0 by decide), fun _ => rfl, I.below⟩)
 refine zb I 47 ((bits .and .i64 fl r) != 0) (false) (h47) fun Al W I => zbin I 60 _ (fun _ _ _ _ _ => m0h .i64 (g) (fl) ((bits .or .i64 g fl)) (rfl)) fun Al W I => zret I (v := fun Al => .tuple #[.agg #[vI f, vI a, vI (bits .or .i64 g fl), vI r, .slice p36 us.length c36], vI 0]) fun Al W I => ?_
 (rw [i0t (s := ⟨f, a, g, r, vs⟩) (fl := fl) (er := er) (by have := oFa h25; show ¬ vs.length < _; omega) (bne_eq_false_iff_eq.1 h40) (bne_eq_false_iff_eq.1 h47)]; exact ⟨fun _ => ⟨p36, c36, rfl, I.fa.1⟩, fun h => absurd rfl h, I.below⟩)
def sV (xs : List ByteArray) : List Value := xs.map Value.string
theorem e0c (xs : List ByteArray) : (sV xs).length = xs.length := List.length_map ..
theorem p0d {xs : List ByteArray} {i : Nat} {s : ByteArray} (h : xs[i]? = some s) : (sV xs)[i]? = some (.string s) := by unfold sV; rw [List.getElem?_map, h]; rfl
theorem n1w (xs : List ByteArray) : (sV xs).all (·.oneCell') = true := by unfold sV; simp [Value.oneCell']
theorem z0t (xs : List ByteArray) (s : ByteArray) : sV xs ++ [.string s] = sV (xs ++ [s]) := by unfold sV; rw [List.map_append]; rfl
theorem c1l (s : ByteArray) (sz : Int) (cb : Nat) (w : World) (hb : Bt w cb 3 #[.int .i64 sz]) : Calls Tryz.prog 33 #[.string s, .pointer (some ⟨cb, 0, none⟩)] w fun en w' => en = .returned (.bool ((s.size : Int) != sz)) ∧ Below w.heap.size w w' := by
 have I := Inv.startR w [cb] [⟨3, [.v (.int .i64 sz)], true⟩] [] ⟨hb, True.intro⟩ True.intro
 refine a0c [.v (.string s), .p 0 0] I Tryz.func33 ?_
 exact zrb I
theorem c1m (xs : List ByteArray) (p : OA) (c : Nat) (sz : Int) (cb : Nat) (w : World) (hr : RdV w p (sV xs)) (hcb : Bt w cb 3 #[.int .i64 sz]) (hl : xs.length ≤ 9223372036854775807) : Calls Tryz.prog 70 #[.slice p xs.length c, .func (.func 33) #[] #[.pointer (some ⟨cb, 0, none⟩)]] w
 fun en w' => ∃ r : Int, en = .returned (.int .i64 r) ∧ (0 ≤ r ↔ ∃ s, s ∈ xs ∧ (s.size : Int) ≠ sz) ∧ Below w.heap.size w w' := by
 have HC := fun s W h => lHd (c1l s sz cb W h)
 have HX : ∀ i, i < xs.length → ∃ s, xs[i]? = some s ∧ s ∈ xs ∧ xs.take (i + 1) = xs.take i ++ [s] := fun i h => ⟨xs[i], List.getElem?_eq_getElem h, List.getElem_mem h, by rw [List.take_add_one, List.getElem?_eq_getElem h]; rfl⟩
 have hsol : h0m p xs.length := by have := hr.solid; rw [e0c] at this; exact this
 have I := Inv.start w [rdvF p (sV xs), btF cb 3 #[.int .i64 sz]] ⟨hr, hcb, True.intro⟩
 refine a0c [.v (.slice p xs.length c), .v (.func (.func 33) #[] #[.pointer (some ⟨cb, 0, none⟩)])] I Tryz.func70 ?_
 refine h0u I (fun gk fr bx gs => ∃ (U900 : Nat → Value) (i : Nat), fr = (.v (.slice p xs.length c) :: .v (.func (.func 33) #[] #[.pointer (some ⟨cb, 0, none⟩)]) :: su 2 (sw U900 4 3 (.v (.int .i64 (xs.length : Int)) :: .v (.int .i64 (i : Int)) :: sw U900 9 10 [])) : List SV) ∧ bx = [] ∧ gs = [rdvF p (sV xs), btF cb 3 #[.int .i64 sz]] ∧ (gk + i = xs.length) ∧ (∀ s, s ∈ xs.take i → (s.size : Int) = sz)) xs.length (fun Al W U I => ⟨_, ⟨U, 0, rfl, rfl, rfl, (by omega), (fun s h => by cases h)⟩, I.pick [0, 1]⟩) ?_
 rintro J0 gk0 _ _ _ ⟨U900, i, rfl, rfl, rfl, hgk, hall⟩ hJ0 Al W I
 rcases bTF (decide ((i : Int) < (xs.length : Int))) with f9 | f9
 · refine zb I 9 (decide ((i : Int) < (xs.length : Int))) (true) (f9) fun Al W I => ?_
   obtain ⟨s, hs, hsm, hst⟩ := HX i (by have := oTr f9; omega)
   by_cases hz : (s.size : Int) = sz
   · refine zx I 14 (fun _ => .pointer (some (at_ p i))) (fun Al W I => (d0x (m := i) (n := xs.length) (c := c) i0y hsol (by have := oTr f9; omega))) fun Al W I => zx I 15 (fun _ => .string s) (fun Al W I => (b0i (m := i) I.fa.1 c0n (p0d hs))) fun Al W I => zqd I (fun Al W I => (HC s W I.fa.2.1).out) (show ((s.size : Int) != sz) = false from bne_eq_false_iff_eq.2 hz) fun Al W I => zi I 18 .i64 ((i : Int) + 1) (((i + 1 : Nat) : Int)) ((by rw [show ((i : Int) + 1) = ((i + 1 : Nat) : Int) by omega]; exact IntWalk.i64_in _ (by have := oTr f9; omega))) fun Al W I => a0i I J0 fun Al W U I => hJ0 (gk0 - 1) _ _ _ _ _ ((by have := oTr f9; omega)) ⟨U, i + 1, rfl, rfl, rfl, (by have := oTr f9; omega), (fun s' h => by rw [hst, List.mem_append, List.mem_singleton] at h; rcases h with h | rfl; exact hall s' h; exact hz)⟩ (I.pick [0, 1])
   refine zx I 14 (fun _ => .pointer (some (at_ p i))) (fun Al W I => (d0x (m := i) (n := xs.length) (c := c) i0y hsol (by have := oTr f9; omega))) fun Al W I => zx I 15 (fun _ => .string s) (fun Al W I => (b0i (m := i) I.fa.1 c0n (p0d hs))) fun Al W I => zqd I (fun Al W I => (HC s W I.fa.2.1).out) (show ((s.size : Int) != sz) = true from bne_iff_ne.2 hz) fun Al W I => zret I fun Al W I => ⟨(i : Int), rfl, ⟨fun _ => ⟨s, hsm, hz⟩, fun _ => by omega⟩, I.below⟩
 refine zb I 9 (decide ((i : Int) < (xs.length : Int))) (false) (f9) fun Al W I => zret I (v := fun Al => vI (-1)) fun Al W I => ⟨-1, rfl, ⟨fun h => by omega, fun ⟨s, h, k⟩ => absurd (hall s (by rw [List.take_of_length_le (by have := oFa f9; omega)]; exact h)) k⟩, I.below⟩
theorem t0g (xs : List ByteArray) (p : OA) (c : Nat) (sz : Int) (cb : Nat) (w : World) (hr : RdV w p (sV xs)) (hcb : Bt w cb 3 #[.int .i64 sz]) (hl : xs.length ≤ 9223372036854775807) : Calls Tryz.prog 32 #[.slice p xs.length c, .func (.func 33) #[] #[.pointer (some ⟨cb, 0, none⟩)]] w
 fun en w' => en = .returned (.bool (xs.any fun s => (s.size : Int) != sz)) ∧ Below w.heap.size w w' := by
 have HC := fun W h h2 => lHd (c1m xs p c sz cb W h h2 hl)
 have I := Inv.start w [rdvF p (sV xs), btF cb 3 #[.int .i64 sz]] ⟨hr, hcb, True.intro⟩
 refine a0c [.v (.slice p xs.length c), .v (.func (.func 33) #[] #[.pointer (some ⟨cb, 0, none⟩)])] I Tryz.func32 ?_
 refine zg I (fun Al W I => (HC W I.fa.1 I.fa.2.1).out) fun Al V Iv _ hB _ kz => ?_
 rintro _ W ⟨r, rfl, hi, hb⟩
 refine ⟨_, rfl, kz _ _ hb fun I => ?_⟩
 exact zret I (v := fun Al => .bool (decide (r ≥ 0))) fun Al W I => ⟨congrArg (fun b => Ending.returned (.bool b)) (by rw [Bool.eq_iff_iff]; simp only [decide_eq_true_eq, List.any_eq_true, bne_iff_ne, ge_iff_le]; exact hi), I.below⟩
def chkS (f a g r : Int) (xs : List ByteArray) : Int :=
 if ¬ IsFm f then 6 else if ¬ (1 ≤ a ∧ a ≤ 5) then 6 else if ¬ (0 ≤ g ∧ g ≤ 31 ∧ 0 ≤ r ∧ r ≤ 31) then 3 else if 16 < xs.length then 2 else if xs.any (fun s => (s.size : Int) != (((fmt f).size : Nat) : Int)) then 1 else 0
theorem c1n (f a g r : Int) (xs : List ByteArray) (p : OA) (c : Nat) (w : World) (hr : RdV w p (sV xs)) (hl : xs.length ≤ 9223372036854775807) : Calls Tryz.prog 14 #[stV f a g r p xs.length c] w
 fun en w' => en = .returned (.int .i64 (chkS f a g r xs)) ∧ Below w.heap.size w w' := by
 have HS := fun W => lHd (z0d f W)
 have HC := fun p c cb W h h2 => lHd (t0g xs p c (((fmt f).size : Nat) : Int) cb W h h2 hl)
 have he : c0o f = if IsFm f then 0 else 6 := rfl
 unfold chkS
 generalize (((fmt f).size : Nat) : Int) = sz at *
 generalize c0o f = er at *
 generalize hb : (xs.any fun s => (s.size : Int) != sz) = b at *
 have HW := fun W => lHd (c1h a W)
 have HG := fun x W => lHd (k0a x 0 31 W)
 have I := Inv.start w [rdvF p (sV xs)] ⟨hr, True.intro⟩
 refine a0c [.v (.agg #[.int .i64 f, .int .i64 a, .int .i64 g, .int .i64 r, .slice p xs.length c])] I Tryz.func14 ?_
 refine zq I (fun Al W I => (HS W).out) fun Al W I => ?_
 rcases bTF (er != 0) with h13 | h13
 · refine zb I 13 (er != 0) (true) (h13) fun Al W I => zret I (v := fun Al => vI er) fun Al W I => ⟨congrArg (fun x => Ending.returned (vI x)) ?_, I.below⟩
   (have h := bne_iff_ne.1 h13; split at he; omega; rw [if_pos (by assumption), he])
 refine zb I 13 (er != 0) (false) (h13) fun Al W I => ?_
 by_cases hw : 1 ≤ a ∧ a ≤ 5
 · refine zqd I (fun Al W I => (HW W).out) (show (decide (1 ≤ a) && decide (a ≤ 5)) = true from (by rw [decide_eq_true hw.1, decide_eq_true hw.2]; rfl)) fun Al W I => ?_
   by_cases hg : 0 ≤ g ∧ g ≤ 31
   · by_cases hg2 : 0 ≤ r ∧ r ≤ 31
     · refine zqd I (fun Al W I => (HG g W).out) (show (decide (0 ≤ g) && decide (g ≤ 31)) = true from (by rw [decide_eq_true hg.1, decide_eq_true hg.2]; rfl)) fun Al W I => zqd I (fun Al W I => (HG r W).out) (show (decide (0 ≤ r) && decide (r ≤ 31)) = true from (by rw [decide_eq_true hg2.1, decide_eq_true hg2.2]; rfl)) fun Al W I => ?_
       rcases bTF (decide ((xs.length : Int) > 16)) with h35 | h35
       · refine zb I 35 (decide ((xs.length : Int) > 16)) (true) (h35) fun Al W I => zret I (v := fun Al => vI 2) fun Al W I => ⟨congrArg (fun x => Ending.returned (vI x)) ?_, I.below⟩
         (have h := bne_eq_false_iff_eq.1 h13; split at he; rotate_left; omega; rename_i hf; rw [if_neg (Classical.not_not.2 hf)]; first | (rw [if_pos hw]) | (rw [if_neg (Classical.not_not.2 hw)]; first | (rw [if_pos (fun h => hg ⟨h.1, h.2.1⟩)]) | (rw [if_pos (fun h => hg2 ⟨h.2.2.1, h.2.2.2⟩)]) | (rw [if_neg (Classical.not_not.2 ⟨hg.1, hg.2, hg2.1, hg2.2⟩)]; (rw [if_pos (by have := oTr h35; omega)]))))
       refine zb I 35 (decide ((xs.length : Int) > 16)) (false) (h35) fun Al W I => ?_
       by_cases hany : b = true
       · refine zqd I (fun Al W I => (HC p c (lk 0 Al 1) W I.fa.1 (I.box 1 3 _)).out) (show (b) = true from hany) fun Al W I => zret I (v := fun Al => vI 1) fun Al W I => ⟨congrArg (fun x => Ending.returned (vI x)) ?_, I.below⟩
         (have h := bne_eq_false_iff_eq.1 h13; split at he; rotate_left; omega; rename_i hf; rw [if_neg (Classical.not_not.2 hf)]; first | (rw [if_pos hw]) | (rw [if_neg (Classical.not_not.2 hw)]; first | (rw [if_pos (fun h => hg ⟨h.1, h.2.1⟩)]) | (rw [if_pos (fun h => hg2 ⟨h.2.2.1, h.2.2.2⟩)]) | (rw [if_neg (Classical.not_not.2 ⟨hg.1, hg.2, hg2.1, hg2.2⟩)]; (rw [if_neg (by have := oFa h35; omega)]; first | (rw [if_pos hany]) | (rw [if_neg hany])))))
       refine zqd I (fun Al W I => (HC p c (lk 0 Al 1) W I.fa.1 (I.box 1 3 _)).out) (show (b) = false from (by cases b with | true => exact absurd rfl hany | false => rfl)) fun Al W I => zret I (v := fun Al => vI 0) fun Al W I => ⟨congrArg (fun x => Ending.returned (vI x)) ?_, I.below⟩
       (have h := bne_eq_false_iff_eq.1 h13; split at he; rotate_left; omega; rename_i hf; rw [if_neg (Classical.not_not.2 hf)]; first | (rw [if_pos hw]) | (rw [if_neg (Classical.not_not.2 hw)]; first | (rw [if_pos (fun h => hg ⟨h.1, h.2.1⟩)]) | (rw [if_pos (fun h => hg2 ⟨h.2.2.1, h.2.2.2⟩)]) | (rw [if_neg (Classical.not_not.2 ⟨hg.1, hg.2, hg2.1, hg2.2⟩)]; (rw [if_neg (by have := oFa h35; omega)]; first | (rw [if_pos hany]) | (rw [if_neg hany])))))
     refine zqd I (fun Al W I => (HG g W).out) (show (decide (0 ≤ g) && decide (g ≤ 31)) = true from (by rw [decide_eq_true hg.1, decide_eq_true hg.2]; rfl)) fun Al W I => zqd I (fun Al W I => (HG r W).out) (show (decide (0 ≤ r) && decide (r ≤ 31)) = false from (by rw [← Bool.decide_and]; exact dFa hg2)) fun Al W I => zret I (v := fun Al => vI 3) fun Al W I => ⟨congrArg (fun x => Ending.returned (vI x)) ?_, I.below⟩
     (have h := bne_eq_false_iff_eq.1 h13; split at he; rotate_left; omega; rename_i hf; rw [if_neg (Classical.not_not.2 hf)]; first | (rw [if_pos hw]) | (rw [if_neg (Classical.not_not.2 hw)]; first | (rw [if_pos (fun h => hg ⟨h.1, h.2.1⟩)]) | (rw [if_pos (fun h => hg2 ⟨h.2.2.1, h.2.2.2⟩)])))
   refine zqd I (fun Al W I => (HG g W).out) (show (decide (0 ≤ g) && decide (g ≤ 31)) = false from (by rw [← Bool.decide_and]; exact dFa hg)) fun Al W I => zret I (v := fun Al => vI 3) fun Al W I => ⟨congrArg (fun x => Ending.returned (vI x)) ?_, I.below⟩
   (have h := bne_eq_false_iff_eq.1 h13; split at he; rotate_left; omega; rename_i hf; rw [if_neg (Classical.not_not.2 hf)]; first | (rw [if_pos hw]) | (rw [if_neg (Classical.not_not.2 hw)]; (rw [if_pos (fun h => hg ⟨h.1, h.2.1⟩)])))
 refine zqd I (fun Al W I => (HW W).out) (show (decide (1 ≤ a) && decide (a ≤ 5)) = false from (by rw [← Bool.decide_and]; exact dFa hw)) fun Al W I => zret I (v := fun Al => vI 6) fun Al W I => ⟨congrArg (fun x => Ending.returned (vI x)) ?_, I.below⟩
 (have h := bne_eq_false_iff_eq.1 h13; split at he; rotate_left; omega; rename_i hf; rw [if_neg (Classical.not_not.2 hf)]; (rw [if_pos hw]))
theorem n0c {f a g r : Int} {xs : List ByteArray} (h : chkS f a g r xs = 0) : IsFm f ∧ (1 ≤ a ∧ a ≤ 5) ∧ (0 ≤ g ∧ g ≤ 31 ∧ 0 ≤ r ∧ r ≤ 31) ∧ xs.length ≤ 16 ∧ ∀ s, s ∈ xs → s.size = (fmt f).size := by
 unfold chkS at h
 by_cases h1 : IsFm f
 · rw [if_neg (Classical.not_not.2 h1)] at h
   by_cases h2 : 1 ≤ a ∧ a ≤ 5
   · rw [if_neg (Classical.not_not.2 h2)] at h
     by_cases h3 : 0 ≤ g ∧ g ≤ 31 ∧ 0 ≤ r ∧ r ≤ 31
     · rw [if_neg (Classical.not_not.2 h3)] at h
       by_cases h4 : 16 < xs.length
       · rw [if_pos h4] at h; cases h
       · rw [if_neg h4] at h
         by_cases h5 : (xs.any fun s => (s.size : Int) != (((fmt f).size : Nat) : Int)) = true
         · rw [if_pos h5] at h; cases h
         · refine ⟨h1, h2, h3, by omega, fun s hs => ?_⟩
           have h6 := List.any_eq_false.1 (Bool.eq_false_iff.2 h5) s hs
           simp only [bne_iff_ne, ne_eq, Classical.not_not] at h6
           omega
     · rw [if_pos h3] at h; cases h
   · rw [if_pos h2] at h; cases h
 · rw [if_pos h1] at h; cases h
structure OpT where
 d : Int
 n : Int
 t : ByteArray
def OpT.cells (o : OpT) : List Value := [.int .i64 o.d, .int .i64 o.n, .string o.t]
def e0h (l : List OpT) : List Value := l.flatMap OpT.cells
theorem x0y (l : List OpT) : (e0h l).length = l.length * 3 := by
 induction l with
 | nil => rfl
 | cons o l ih => unfold e0h at ih ⊢; rw [List.flatMap_cons, List.length_append, ih, List.length_cons]; show 3 + _ = _; omega
theorem q0u : ∀ (l : List OpT) (i : Nat) (o : OpT), l[i]? = some o → ((e0h l).drop (i * 3)).take 3 = o.cells
 | o :: l, 0, _, h => by cases h; rfl
 | x :: l, i + 1, o, h => by
  have := q0u l i o h
  rw [← this, show (i + 1) * 3 = i * 3 + 3 by omega]
  rfl
def runL (F : St → OpT → St × Int) : St → List OpT → Nat → St × Nat × Int
 | s, [], i => (s, i, 0)
 | s, o :: l, i => if (F s o).2 = 0 then runL F (F s o).1 l (i + 1) else ((F s o).1, i, (F s o).2)
def runR (F : St → OpT → St × Int) (s : St) (xs : List ByteArray) (l : List OpT) : St × Nat × Int :=
 if chkS s.f s.a s.g s.r xs ≠ 0 then (⟨0, 0, 0, 0, []⟩, 0, chkS s.f s.a s.g s.r xs) else if 200 < l.length then (⟨0, 0, 0, 0, []⟩, 0, 2) else runL F s l 0
theorem u1v : b1g Tryz.prog 31 30 3 32 := y0y (z := .agg #[.int .i64 0, .int .i64 0, .string ByteArray.empty]) (by kernel_rfl) (by kernel_rfl) (by kernel_rfl) (by kernel_rfl) (by kernel_rfl)
theorem ldOp : m0p Tryz.prog 30 3 := y0l (by kernel_rfl) (by kernel_rfl)
theorem z0u (f a g r : Int) (xs : List ByteArray) (p : OA) (n c : Nat) (w : World) (hr : RdV w p (sV xs)) (hn : n = xs.length) (hl : xs.length ≤ 9223372036854775807) : Calls Tryz.prog 14 #[stV f a g r p n c] w
 fun en w' => en = .returned (.int .i64 (chkS f a g r xs)) ∧ Below w.heap.size w w' := by
 subst hn
 exact c1n f a g r xs p c w hr hl
def m1b (w : World) (R : St × Nat × Int) (en : Ending) (w' : World) : Prop :=
 ∃ p c, en = .returned (.tuple #[stV R.1.f R.1.a R.1.g R.1.r p R.1.vs.length c, .int .i64 (R.2.1 : Int), .int .i64 R.2.2]) ∧ OwnV w' w.heap.size 9 p c R.1.vs ∧ Below w.heap.size w w'
theorem q1y (F : St → OpT → St × Int) (Good : St → Prop) (f a g r : Int) (xs : List ByteArray) (l : List OpT) (p pl : OA) (c cl : Nat) (w : World) (hr : RdV w p (sV xs)) (hlr : RdV w pl (e0h l)) (hl : xs.length ≤ 9223372036854775807) (hll : l.length ≤ 9223372036854775807) (hT : TabW w)
 (hg0 : chkS f a g r xs = 0 → Good ⟨f, a, g, r, sV xs⟩) (hgood : ∀ s o, o ∈ l → Good s → (F s o).2 = 0 → Good (F s o).1) (hF : ∀ s o, (F s o).2 ≠ 0 → (F s o).1.vs = s.vs)
 (Hstep : ∀ s o p c W, o ∈ l → Good s → TabW W → RdV W p s.vs → Calls Tryz.prog 18 #[stV s.f s.a s.g s.r p s.vs.length c, opV o.d o.n o.t] W (m0o W p c (F s o))) :
 Calls Tryz.prog 9 #[stV f a g r p (sV xs).length c, .slice pl l.length cl] w (m1b w (runR F ⟨f, a, g, r, sV xs⟩ xs l)) := by
 have HC := fun W h => lHd (z0u f a g r xs p (sV xs).length c W h (e0c xs) hl)
 have HL := fun W h (hck : chkS f a g r xs = 0) => lHd (i0s f a g r p (sV xs).length c (sV xs) W h rfl (by rw [e0c]; have := (n0c hck).2.2.2.1; omega) (n1w xs))
 have HS := fun s o p c W (ho : o ∈ l) (hg : Good s) (h : TabW W) h2 (he : (F s o).2 = 0) => lHd ((Hstep s o p c W ho hg h h2).mono (R' := fun en w' => ∃ p' c', en = .returned (.tuple #[stV (F s o).1.f (F s o).1.a (F s o).1.g (F s o).1.r p' (F s o).1.vs.length c', .int .i64 (F s o).2]) ∧ OwnV w' W.heap.size 9 p' c' (F s o).1.vs ∧ Below W.heap.size W w') fun _ _ ⟨h1, _, h3⟩ => by obtain ⟨p', c', x, y⟩ := h1 he; exact ⟨p', c', x, y, h3⟩)
 have HE := fun s o p c W (ho : o ∈ l) (hg : Good s) (h : TabW W) h2 (he : (F s o).2 ≠ 0) => lHd ((Hstep s o p c W ho hg h h2).mono (R' := fun en w' => en = .returned (.tuple #[stV (F s o).1.f (F s o).1.a (F s o).1.g (F s o).1.r p (F s o).1.vs.length c, .int .i64 (F s o).2]) ∧ Below W.heap.size W w') fun _ _ ⟨_, h1, h3⟩ => ⟨h1 he, h3⟩)
 have HX : ∀ i, i < l.length → ∃ o, o ∈ l ∧ ((e0h l).drop (i * 3)).take 3 = o.cells ∧ l.drop i = o :: l.drop (i + 1) := fun i h => ⟨l[i], List.getElem_mem h, q0u l i _ (List.getElem?_eq_getElem h), (List.drop_eq_getElem_cons h)⟩
 have hsol : h0m pl l.length := fun h => hlr.solid (by rw [x0y]; omega)
 clear Hstep
 unfold m1b runR
 dsimp only
 generalize chkS f a g r xs = ck at *
 have I := Inv.start w [tabF, rdvF p (sV xs), rdvF pl (e0h l)] ⟨hT, hr, hlr, True.intro⟩
 refine a0c [.v (.agg #[.int .i64 f, .int .i64 a, .int .i64 g, .int .i64 r, .slice p (sV xs).length c]), .v (.slice pl l.length cl)] I Tryz.func9 ?_
 refine zq I (fun Al W I => (HC W I.fa.2.1).out) fun Al W I => ?_
 rcases bTF (ck != 0) with h15 | h15
 · refine zb I 15 (ck != 0) (true) (h15) fun Al W I => zret I (v := fun Al => .tuple #[.agg #[vI 0, vI 0, vI 0, vI 0, .slice none 0 0], vI 0, vI ck]) fun Al W I => ?_
   (rw [if_pos (bne_iff_ne.1 h15)]; exact ⟨none, 0, rfl, OwnV.nil _ _ _, I.below⟩)
 refine zb I 15 (ck != 0) (false) (h15) fun Al W I => ?_
 rcases bTF (decide ((l.length : Int) > 200)) with h20 | h20
 · refine zb I 20 (decide ((l.length : Int) > 200)) (true) (h20) fun Al W I => zret I (v := fun Al => .tuple #[.agg #[vI 0, vI 0, vI 0, vI 0, .slice none 0 0], vI 0, vI 2]) fun Al W I => ?_
   (rw [if_neg (Classical.not_not.2 (bne_eq_false_iff_eq.1 h15)), if_pos (by have := oTr h20; omega)]; exact ⟨none, 0, rfl, OwnV.nil _ _ _, I.below⟩)
 refine zb I 20 (decide ((l.length : Int) > 200)) (false) (h20) fun Al W I => zg I (fun Al W I => (HL W I.fa.2.1 (bne_eq_false_iff_eq.1 h15)).out) fun Al V Iv _ hB _ kz => ?_
 rintro _ W ⟨q23, d23, rfl, o23, hb⟩
 refine ⟨_, rfl, kz _ _ hb fun I => ?_⟩
 have I := I.ownv o23
 refine h0u I (fun gk fr bx gs => ∃ (U900 : Nat → Value) (i : Nat) (s : St) (p1 : OA) (c1 : Nat), fr = (.v (.agg #[.int .i64 f, .int .i64 a, .int .i64 g, .int .i64 r, .slice p (sV xs).length c]) :: .v (.slice pl l.length cl) :: .p 0 0 :: .v undef :: .p 1 0 :: sw U900 5 2 (.v (.int .i64 ck) :: sw U900 8 7 (.v (.bool false) :: sw U900 16 4 (.v (.bool false) :: sw U900 21 3 (.v (.slice pl l.length cl) :: .v (.int .i64 (l.length : Int)) :: .v (.int .i64 (i : Int)) :: sw U900 27 20 [])))) : List SV) ∧ bx = [⟨25, [.v (.int .i64 s.f), .v (.int .i64 s.a), .v (.int .i64 s.g), .v (.int .i64 s.r), .v (.slice p1 s.vs.length c1)], false⟩, ⟨25, [.v (.int .i64 0), .v (.int .i64 0), .v (.int .i64 0), .v (.int .i64 0), .v (.slice none 0 0)], false⟩] ∧ gs = [b0z w.heap.size 9 p1 c1 s.vs, tabF, rdvF p (sV xs), rdvF pl (e0h l)] ∧ (gk + i = l.length) ∧ (Good s) ∧ (runL F ⟨f, a, g, r, sV xs⟩ l 0 = runL F s (l.drop i) i)) l.length (fun Al W U I => ⟨_, ⟨U, 0, ⟨f, a, g, r, sV xs⟩, q23, d23, rfl, rfl, rfl, (by omega), (hg0 (bne_eq_false_iff_eq.1 h15)), rfl⟩, I.pick [0, 1, 2, 3]⟩) ?_
 rintro J0 gk0 _ _ _ ⟨U900, i, s, p1, c1, rfl, rfl, rfl, hgk, hgd, hrun⟩ hJ0 Al W I
 rcases bTF (decide ((i : Int) < (l.length : Int))) with f27 | f27
 · refine zb I 27 (decide ((i : Int) < (l.length : Int))) (true) (f27) fun Al W I => ?_
   obtain ⟨o, hom, hoc, hod⟩ := HX i (by have := oTr f27; omega)
   refine zx I 29 (fun _ => .pointer (some (at_ pl (i * 3)))) (fun Al W I => (o0m (m := i) (n := l.length) (c := cl) u1v hsol (by have := oTr f27; omega))) fun Al W I => zx I 30 (fun _ => .agg #[vI o.d, vI o.n, .string o.t]) (fun Al W I => (s1s (m := i * 3) I.fa.2.2.2.1 ldOp o.cells hoc rfl)) fun Al W I => ?_
   by_cases he : (F s o).2 = 0
   · refine zg I (fun Al W I => (HS s o p1 c1 W hom hgd I.fa.2.1 I.fa.1.rd he).out) fun Al V Iv _ hB _ kz => ?_
     rintro _ W ⟨p34, c34, rfl, o34, hb⟩
     refine ⟨_, rfl, kz _ _ hb fun I => ?_⟩
     have I := I.ownv o34
     refine zb I 39 (((F s o).2) != 0) (false) (bne_eq_false_iff_eq.2 he) fun Al W I => zi I 43 .i64 ((i : Int) + 1) (((i + 1 : Nat) : Int)) ((by rw [show ((i : Int) + 1) = ((i + 1 : Nat) : Int) by omega]; exact IntWalk.i64_in _ (by have := oTr f27; omega))) fun Al W I => o0n 2 I J0 fun Al W U I => hJ0 (gk0 - 1) _ _ _ _ _ ((by have := oTr f27; omega)) ⟨U, i + 1, (F s o).1, p34, c34, rfl, rfl, rfl, (by have := oTr f27; omega), (hgood s o hom hgd he), (by rw [hrun, hod]; show (if (F s o).2 = 0 then _ else _) = _; rw [if_pos he])⟩ (I.pick [0, 2, 3, 4])
   refine zq I (fun Al W I => (HE s o p1 c1 W hom hgd I.fa.2.1 I.fa.1.rd he).out) fun Al W I => zb I 39 (((F s o).2) != 0) (true) (bne_iff_ne.2 he) fun Al W I => zret I (v := fun Al => .tuple #[.agg #[vI ((F s o).1.f), vI ((F s o).1.a), vI ((F s o).1.g), vI ((F s o).1.r), .slice p1 (F s o).1.vs.length c1], vI (i : Int), vI ((F s o).2)]) fun Al W I => ?_
   (rw [if_neg (Classical.not_not.2 (bne_eq_false_iff_eq.1 h15)), if_neg (by have := oFa h20; omega), hrun, hod, show runL F s (o :: l.drop (i + 1)) i = ((F s o).1, i, (F s o).2) by (show (if (F s o).2 = 0 then _ else _) = _); rw [if_neg he]]; exact ⟨p1, c1, rfl, by rw [hF s o he]; exact I.fa.1, I.below⟩)
 refine zb I 27 (decide ((i : Int) < (l.length : Int))) (false) (f27) fun Al W I => zret I (v := fun Al => .tuple #[.agg #[vI s.f, vI s.a, vI s.g, vI s.r, .slice p1 s.vs.length c1], vI (l.length : Int), vI 0]) fun Al W I => ?_
 (rw [if_neg (Classical.not_not.2 (bne_eq_false_iff_eq.1 h15)), if_neg (by have := oFa h20; omega), hrun, List.drop_eq_nil_of_le (by have := oFa f27; omega), show i = l.length by have := oFa f27; omega]; exact ⟨p1, c1, rfl, I.fa.1, I.below⟩)
theorem n0d {P : Program} {W : World} {l : List Nat} {b : Bool} (h : Byt l) (hb : l = [] ↔ b = false) {t : TypeId} {x y : Operand} : (do eqGuard .neq t x y (.string (a0d l)) (.string ⟨#[]⟩); binOp .neq t (.string (a0d l)) (.string ⟨#[]⟩) : Sem Value).run P W = .ok (.bool b) W :=
 k1z ((s0x h).trans hb)
structure NumV (f : Fm) (v : Vl) (r : Vr) : Prop where
 d0 : 0 < v.d
 x0 : r.x.m ≠ 0
 ng : r.x.neg = v.neg
 dec : ∀ k, decM (numP v.d (wid f.g * v.pow)) (denP 1 (wid f.g * v.pow)) k = numX r.x k
 len : (dig B32 v.d).length ≤ 3
 e : -30000 ≤ wid f.g * v.pow ∧ wid f.g * v.pow ≤ 30000
theorem x0z {n : Int} {s : ByteArray} (h0 : a0p n s = 0) (hc : (refD n s).cls = 2) : NumV (fmt n) (decP n s) (refD n s) := by
 obtain ⟨hn, hs⟩ := b0h.1 h0
 have G := b0r hn
 have V := h0f h0
 have F := (f0d (s := s) hn).ok
 have hd : decP n s = (fmt n).valN (a0q (fmt n) s) := by unfold decP; rw [if_pos h0]
 have he : (fmt n).exp (a0q (fmt n) s) < 2 ^ (fmt n).E := Nat.mod_lt _ (Nat.pow_pos (by omega))
 have hx : (fmt n).frac (a0q (fmt n) s) < 2 ^ (fmt n).F := Nat.mod_lt _ (Nat.pow_pos (by omega))
 have hm := j1i (f := fmt n) ((fmt n).neg (a0q (fmt n) s)) (e := (fmt n).exp (a0q (fmt n) s)) hx
 have hD := fun k => p1x (f := fmt n) (g := (fmt n).neg (a0q (fmt n) s)) (d := (fmt n).decN (a0q (fmt n) s)) hc k
 have hlen : (dig B32 (decP n s).d).length ≤ 3 := by
  rw [hd]
  unfold Fm.valN Fm.vl
  simp only
  split
  · exact Nat.le_trans (a0l a0b (Nat.div_le_self _ _)) (a0u hm (by have := G.f2; omega))
  · rw [a0e]; exact Nat.zero_le _
 have hd0 : 0 < (decP n s).d := by rw [hd]; exact (hD 1).2.1
 refine ⟨hd0, (hD 1).2.2, ?_, fun k => by rw [hd]; exact (hD k).1, hlen, ?_⟩
 · rw [(F.x2 hc).2, V.neg]
 · have hnum := V.num hc
   have hlo := F.lo
   have hhi := F.hi
   have hb : bare ⟨(decP n s).neg, (decP n s).d, wid (fmt n).g * (decP n s).pow⟩ = ⟨(decP n s).neg, (decP n s).d / 2 ^ tz (decP n s).d, wid (fmt n).g * (decP n s).pow + tz (decP n s).d⟩ := r0i (by omega)
   rw [← hnum, hb] at hlo hhi
   simp only at hlo hhi
   have ht : tz (decP n s).d ≤ 100 := by
    have h1 := (b0v (decP n s).d hd0).1
    have h2 : 2 ^ tz (decP n s).d ≤ (decP n s).d := by
     have h3 : 0 < (decP n s).d / 2 ^ tz (decP n s).d := Nat.pos_of_ne_zero fun h => by rw [h, Nat.mul_zero] at h1; omega
     calc 2 ^ tz (decP n s).d = 2 ^ tz (decP n s).d * 1 := (Nat.mul_one _).symm
      _ ≤ 2 ^ tz (decP n s).d * ((decP n s).d / 2 ^ tz (decP n s).d) := Nat.mul_le_mul_left _ h3
      _ = _ := h1
    have h4 := (a0w (decP n s).d (blen (decP n s).d)).1 (Nat.le_refl _)
    have h5 := c0x (decP n s).d
    have h6 : tz (decP n s).d < blen (decP n s).d := (Nat.pow_lt_pow_iff_right (by omega : 1 < 2)).1 (Nat.lt_of_le_of_lt h2 h4)
    omega
   omega
def h1p (r : Vr) (k : Nat) : List Nat := if r.cls = 2 then numT r.neg (numX r.x k).1 (numX r.x k).2 else i0j r.cls r.neg
def b0x (n k : Int) (s : ByteArray) : Int := if a0p n s = 0 then (if k < 1 ∨ 60 < k then 3 else 0) else a0p n s
def b0s (n k : Int) (s : ByteArray) : ByteArray := if b0x n k s = 0 then a0d (h1p (refD n s) k.toNat) else a0d []
theorem t0h {s : List Nat} (h : ∀ y ∈ s, 48 ≤ y ∧ y ≤ 57) : Byt s := fun y hy => by have := h y hy; omega
theorem v0t (n k : Int) (s : ByteArray) (w : World) (hT : TabW w) (hP : PowW w) : Calls Tryz.prog 13 #[.int .i64 n, .string s, .int .i64 k] w fun en w' => en = .returned (.tuple #[.string (b0s n k s), .int .i64 (b0x n k s)]) ∧ Below w.heap.size w w' := by
 have HD := fun W h => lHd (g0r n s W h)
 have e1 : a0p n s ≠ 0 → b0x n k s = a0p n s ∧ b0s n k s = a0d [] := fun h => by
  have h1 : b0x n k s = a0p n s := by unfold b0x; rw [if_neg h]
  unfold b0s
  rw [h1, if_neg h]
  exact ⟨rfl, rfl⟩
 have e2 : a0p n s = 0 → (k < 1 ∨ 60 < k) → b0x n k s = 3 ∧ b0s n k s = a0d [] := fun h h' => by
  have h1 : b0x n k s = 3 := by unfold b0x; rw [if_pos h, if_pos h']
  unfold b0s
  rw [h1]
  exact ⟨rfl, rfl⟩
 have e3 : a0p n s = 0 → ¬ (k < 1 ∨ 60 < k) → b0x n k s = 0 ∧ b0s n k s = a0d (h1p (refD n s) k.toNat) := fun h h' => by
  have h1 : b0x n k s = 0 := by unfold b0x; rw [if_pos h, if_neg h']
  unfold b0s
  rw [h1]
  exact ⟨rfl, rfl⟩
 have hV := fun h => h0f (n := n) (s := s) h
 have hF : a0p n s = 0 → VrOk (refD n s) := fun h => (f0d (n := n) (s := s) (b0h.1 h).1).ok
 have hN := fun h h2 => x0z (n := n) (s := s) h h2
 unfold h1p at e3
 generalize refD n s = r at *
 generalize decP n s = v at *
 generalize b0x n k s = eo at *
 generalize b0s n k s = oo at *
 generalize a0p n s = er at *
 have HW := fun p c b W (h : Own W b .u32 139 p c (dig B32 v.d)) (h2 : 1 ≤ v.cls ∧ v.cls ≤ 5) h3 => lHd (z0q v p c b W h h2 h3)
 have HV := fun p c b W (h : Own W b .u32 139 p c (dig B32 v.d)) h2 => lHd (q0s n v p c b W h h2)
 have HDc := fun (N : NumV (fmt n) v r) (hk : ¬ (k < 1 ∨ 60 < k)) p q a b b1 b2 W (h1 : Own W b1 .u32 139 p a (dig B32 v.d)) (h2 : Own W b2 .u32 139 q b (dig B32 1)) => lHd (by
   have h := m0n v.neg v.d (wid (fmt n).g * v.pow) k.toNat p q a b b1 b2 W h1 h2 N.d0 (by have := N.len; omega) N.e (by omega)
   rw [N.dec, show (k.toNat : Int) = k by omega] at h
   exact h : Calls Tryz.prog 28 #[.agg #[.bool v.neg, .slice p (dig B32 v.d).length a, .slice q (dig B32 1).length b, .int .i64 (wid (fmt n).g * v.pow)], .int .i64 k] W fun en w' => en = .returned (.tuple #[.string (a0d (numX r.x k.toNat).1), .int .i64 (numX r.x k.toNat).2]) ∧ Below W.heap.size W w')
 have HNu := fun W (F : VrOk r) (N : NumV (fmt n) v r) (hk : ¬ (k < 1 ∨ 60 < k)) (h : PowW W) => lHd (by
   have A := i0p (k := k.toNat) N.x0 F.len (by omega)
   have B := z0i (k := k.toNat) N.x0 F.len ⟨F.lo, F.hi⟩ (by omega)
   exact l0i v.neg (numX r.x k.toNat).1 (numX r.x k.toNat).2 W (t0h A.2.1) (fun h => by have := A.1; rw [h, List.length_nil] at this; omega) (by omega) (by omega) h)
 generalize wid (fmt n).g * v.pow = E at *
 obtain ⟨wb, hwb⟩ : ∃ wb : Bool, (i0j v.cls v.neg = [] ↔ wb = false) := ⟨decide (v.cls ≠ 2), by rw [e0b]; simp⟩
 have I := Inv.start w [tabF, powF] ⟨hT, hP, True.intro⟩
 refine a0c [.v (.int .i64 n), .v (.string s), .v (.int .i64 k)] I Tryz.func13 ?_
 refine zqo I (fun Al W I => (HD W I.fa.1).out) fun Al W p16 c16 I => ?_
 rcases bTF (er != 0) with f20 | f20
 · refine zb I 20 (er != 0) (true) (f20) fun Al W I => zret I (v := fun Al => .tuple #[Go.Value.string (ByteArray.mk #[]), vI er]) fun Al W I => ?_
   first | (obtain ⟨h1, h2⟩ := e1 (bne_iff_ne.1 f20); rw [h1, h2]; exact ⟨rfl, I.below⟩) | (rw [q1, q2, if_pos hc, ← V.neg]; exact ⟨rfl, I.below⟩)
 refine zb I 20 (er != 0) (false) (f20) fun Al W I => ?_
 rcases bTF (decide (k < 1)) with f23 | f23
 · refine zb I 23 (decide (k < 1)) (true) (f23) fun Al W I => zret I (v := fun Al => .tuple #[Go.Value.string (ByteArray.mk #[]), vI 3]) fun Al W I => ?_
   first | (obtain ⟨h1, h2⟩ := e2 (bne_eq_false_iff_eq.1 f20) (by exact .inl (oTr f23)); rw [h1, h2]; exact ⟨rfl, I.below⟩) | (rw [q1, q2, if_pos hc, ← V.neg]; exact ⟨rfl, I.below⟩)
 refine zb I 23 (decide (k < 1)) (false) (f23) fun Al W I => ?_
 rcases bTF (decide (k > 60)) with f26 | f26
 · refine zb I 26 (decide (k > 60)) (true) (f26) fun Al W I => zret I (v := fun Al => .tuple #[Go.Value.string (ByteArray.mk #[]), vI 3]) fun Al W I => ?_
   first | (obtain ⟨h1, h2⟩ := e2 (bne_eq_false_iff_eq.1 f20) (by exact .inr (oTr f26)); rw [h1, h2]; exact ⟨rfl, I.below⟩) | (rw [q1, q2, if_pos hc, ← V.neg]; exact ⟨rfl, I.below⟩)
 refine zb I 26 (decide (k > 60)) (false) (f26) fun Al W I => ?_
 have h0 : er = 0 := bne_eq_false_iff_eq.1 f20
 have hk : ¬ (k < 1 ∨ 60 < k) := fun h => h.elim (oFa f23) (oFa f26)
 obtain ⟨q1, q2⟩ := e3 h0 hk
 have V := hV h0
 have F := hF h0
 refine zq I (fun Al W I => (HW p16 c16 _ W I.fa.1 (by rw [V.cls]; exact F.c) I.fa.2.1).out) fun Al W I => ?_
 rcases bTF (wb) with f31 | f31
 · refine zbin I 31 (.bool true) (fun _ _ _ _ W => ((n0d (l0h _ _) hwb)).trans (congrArg (fun z => Result.ok (Value.bool z) W) (show (wb) = true from f31))) fun Al W I => zret I (v := fun Al => .tuple #[.string (a0d (i0j v.cls v.neg)), vI 0]) fun Al W I => ?_
   first | (rw [q1, q2, if_pos hc, ← V.neg]; exact ⟨rfl, I.below⟩) | (have hc : r.cls ≠ 2 := fun h => (by have := hwb.1 (e0b.2 (V.cls.trans h)); rw [this] at f31; cases f31); rw [q1, q2, if_neg hc, ← V.cls, ← V.neg]; exact ⟨rfl, I.below⟩)
 refine zbin I 31 (.bool false) (fun _ _ _ _ W => ((n0d (l0h _ _) hwb)).trans (congrArg (fun z => Result.ok (Value.bool z) W) (show (wb) = false from f31))) fun Al W I => ?_
 have hc : r.cls = 2 := by rw [← V.cls]; exact e0b.1 (hwb.2 f31)
 have N := hN h0 hc
 refine zqo I (fun Al W I => have hzW := I.bel.size; (HV p16 c16 _ W I.fa.1 (by have := V.lo; have := V.hi; omega)).out) fun Al W q36 d36 I => zq I (fun Al W I => (HDc N hk p16 q36 c16 d36 _ _ W I.fa.2.1 I.fa.1).out) fun Al W I => zq I (fun Al W I => (HNu W F N hk I.fa.2.2.2.1).out) fun Al W I => zret I (v := fun Al => .tuple #[.string (a0d (numT v.neg (numX r.x k.toNat).1 (numX r.x k.toNat).2)), vI 0]) fun Al W I => ?_
 first | (rw [q1, q2, if_pos hc, ← V.neg]; exact ⟨rfl, I.below⟩) | (have hc : r.cls ≠ 2 := fun h => (by have := hwb.1 (e0b.2 (V.cls.trans h)); rw [this] at f31; cases f31); rw [q1, q2, if_neg hc, ← V.cls, ← V.neg]; exact ⟨rfl, I.below⟩)
theorem m1c {f a g r k : Int} {xs : List ByteArray} (h : chkS f a g r xs = 0) (hk : ¬ (k < 1 ∨ 60 < k)) : ∀ s, s ∈ xs → b0x f k s = 0 := fun s hs => by
 obtain ⟨h1, _, _, _, h2⟩ := n0c h
 have h0 : a0p f s = 0 := by unfold a0p; rw [if_pos h1, if_pos (h2 s hs)]
 unfold b0x
 rw [if_pos h0, if_neg hk]
def i0z (f a g r k : Int) (xs : List ByteArray) : Int := if chkS f a g r xs ≠ 0 then chkS f a g r xs else if k < 1 ∨ 60 < k then 3 else 0
def m0s (f a g r k : Int) (xs : List ByteArray) : List ByteArray := if i0z f a g r k xs = 0 then xs.map (b0s f k) else []
theorem m1d (f a g r k : Int) (xs : List ByteArray) (p : OA) (c : Nat) (w : World) (hr : RdV w p (sV xs)) (hl : xs.length ≤ 9223372036854775807) (hT : TabW w) (hP : PowW w) : Calls Tryz.prog 12 #[stV f a g r p (sV xs).length c, .int .i64 k] w
 fun en w' => ∃ q d, en = .returned (.tuple #[.slice q (sV (m0s f a g r k xs)).length d, .int .i64 (i0z f a g r k xs)]) ∧ OwnV w' w.heap.size 9 q d (sV (m0s f a g r k xs)) ∧ Below w.heap.size w w' := by
 have HC := fun W h => lHd (z0u f a g r xs p (sV xs).length c W h (e0c xs) hl)
 have HW := fun W => lHd (k0a k 1 60 W)
 have HP := fun s W h h2 => lHd (v0t f k s W h h2)
 have HO := @m1c f a g r k xs
 have HX : ∀ i, i < xs.length → ∃ s, (sV xs)[i]? = some (.string s) ∧ s ∈ xs ∧ sV ((xs.map (b0s f k)).take i) ++ [.string (b0s f k s)] = sV ((xs.map (b0s f k)).take (i + 1)) := fun i h => ⟨xs[i], p0d (List.getElem?_eq_getElem h), List.getElem_mem h, by rw [z0t, List.take_add_one, List.getElem?_map, List.getElem?_eq_getElem h]; rfl⟩
 have h16 : chkS f a g r xs = 0 → xs.length ≤ 16 := fun h => (n0c h).2.2.2.1
 have hsol : h0m p (sV xs).length := hr.solid
 have hrl := hr.lt
 have hg := hP.2
 have hxl := e0c xs
 have hE1 : chkS f a g r xs ≠ 0 → i0z f a g r k xs = chkS f a g r xs ∧ sV (m0s f a g r k xs) = [] := fun h => by
  have h1 : i0z f a g r k xs = chkS f a g r xs := by unfold i0z; rw [if_pos h]
  exact ⟨h1, by unfold m0s; rw [h1, if_neg h]; rfl⟩
 have hE2 : chkS f a g r xs = 0 → (k < 1 ∨ 60 < k) → i0z f a g r k xs = 3 ∧ sV (m0s f a g r k xs) = [] := fun h h2 => by
  have h1 : i0z f a g r k xs = 3 := by unfold i0z; rw [if_neg (Classical.not_not.2 h), if_pos h2]
  exact ⟨h1, by unfold m0s; rw [h1, if_neg (by decide)]; rfl⟩
 have hE3 : chkS f a g r xs = 0 → ¬ (k < 1 ∨ 60 < k) → i0z f a g r k xs = 0 ∧ m0s f a g r k xs = xs.map (b0s f k) := fun h h2 => by
  have h1 : i0z f a g r k xs = 0 := by unfold i0z; rw [if_neg (Classical.not_not.2 h), if_neg h2]
  exact ⟨h1, by unfold m0s; rw [h1, if_pos rfl]⟩
 generalize chkS f a g r xs = ck at *
 generalize i0z f a g r k xs = se at *
 generalize m0s f a g r k xs = sl at *
 have I := Inv.start w [tabF, powF, rdvF p (sV xs)] ⟨hT, hP, hr, True.intro⟩
 refine a0c [.v (.agg #[.int .i64 f, .int .i64 a, .int .i64 g, .int .i64 r, .slice p (sV xs).length c]), .v (.int .i64 k)] I Tryz.func12 ?_
 refine zq I (fun Al W I => (HC W I.fa.2.2.1).out) fun Al W I => ?_
 rcases bTF (ck != 0) with h15 | h15
 · refine zb I 15 (ck != 0) (true) (h15) fun Al W I => zret I (v := fun Al => .tuple #[.slice none 0 0, vI ck]) fun Al W I => ?_
   (rw [(hE1 (bne_iff_ne.1 h15)).1, (hE1 (bne_iff_ne.1 h15)).2]; exact ⟨none, 0, rfl, OwnV.nil _ _ _, I.below⟩)
 refine zb I 15 (ck != 0) (false) (h15) fun Al W I => ?_
 by_cases hk : 1 ≤ k ∧ k ≤ 60
 · refine zqd I (fun Al W I => (HW W).out) (show (decide (1 ≤ k) && decide (k ≤ 60)) = true from (by rw [decide_eq_true hk.1, decide_eq_true hk.2]; rfl)) fun Al W I => ?_
   have I := I.add (b0z w.heap.size 9 none 0 []) (OwnV.nil _ _ _) (fun _ _ h => by cases h.1)
   refine h0u I (fun gk fr bx gs => ∃ (U900 : Nat → Value) (i : Nat) (q7 : OA) (d7 : Nat), fr = (.v (.agg #[.int .i64 f, .int .i64 a, .int .i64 g, .int .i64 r, .slice p (sV xs).length c]) :: .v (.int .i64 k) :: .p 0 0 :: .v undef :: sw U900 4 2 (.v (.int .i64 ck) :: .v (.slice q7 i d7) :: .v undef :: sw U900 9 6 (.v (.bool false) :: sw U900 16 3 (.v (.bool false) :: .v (U900 20) :: .v (.slice p (sV xs).length c) :: .v (.int .i64 (((sV xs).length : Nat) : Int)) :: .v (.int .i64 (i : Int)) :: sw U900 24 20 []))) : List SV) ∧ bx = [⟨25, [.v (.int .i64 f), .v (.int .i64 a), .v (.int .i64 g), .v (.int .i64 r), .v (.slice p (sV xs).length c)], false⟩] ∧ gs = [b0z w.heap.size 9 q7 d7 (sV ((xs.map (b0s f k)).take i)), tabF, powF, rdvF p (sV xs)] ∧ (gk + i = xs.length)) xs.length (fun Al W U I => ⟨_, ⟨U, 0, none, 0, rfl, rfl, rfl, (by omega)⟩, I.pick [0, 1, 2, 3]⟩) ?_
   rintro J0 gk0 _ _ _ ⟨U900, i, q7, d7, rfl, rfl, rfl, hgk⟩ hJ0 Al W I
   rcases bTF (decide ((i : Int) < (((sV xs).length : Nat) : Int))) with f24 | f24
   · refine zb I 24 (decide ((i : Int) < (((sV xs).length : Nat) : Int))) (true) (f24) fun Al W I => ?_
     obtain ⟨s, hs, hsm, hst⟩ := HX i (by have := oTr f24; omega)
     refine zx I 25 (fun _ => .pointer (some (at_ p i))) (fun Al W I => (d0x (m := i) (n := (sV xs).length) (c := c) i0y hsol (by have := oTr f24; omega))) fun Al W I => zx I 26 (fun _ => .string s) (fun Al W I => (b0i (m := i) I.fa.2.2.2.1 c0n hs)) fun Al W I => zq I (fun Al W I => (HP s W I.fa.2.1 I.fa.2.2.1).out) fun Al W I => zb I 36 ((b0x f k s) != 0) (false) (bne_eq_false_iff_eq.2 (HO (bne_eq_false_iff_eq.1 h15) (by omega) s hsm)) fun Al W I => zapv I [0, 1, 2] i0y 23 i 1 (i + 1) (fun Al => some ⟨(lk 0 Al 1), 0, none⟩) 1 ([Value.string (b0s f k s)]) (by rw [e0c, List.length_take, List.length_map]; have := oTr f24; omega) rfl rfl (by have := oTr f24; have := h16 (bne_eq_false_iff_eq.1 h15); omega) hst (us := sV ((xs.map (b0s f k)).take (i + 1))) (fun Al W I => u0j (I.box 1 9 _)) (fun Al W I h9 => ⟨fun e => by have h1 := (I.fa.1.blk_lt h9).1; have e : 0 = _ := e; omega, fun e => by have h1 := (I.fa.1.blk_lt h9).1; have e : 5 = _ := e; omega, fun h => by have h1 := (I.fa.1.blk_lt h9).1; have h2 := hrl h.1; have e : blk p = _ := h.2; omega, True.intro⟩) (fun Al W p41 c41 I => ?_)
     have I := I.add (b0z w.heap.size 9 none 0 []) (OwnV.nil _ _ _) (fun _ _ h => by cases h.1)
     refine zi I 42 .i64 ((i : Int) + 1) (((i + 1 : Nat) : Int)) ((by rw [show ((i : Int) + 1) = ((i + 1 : Nat) : Int) by omega]; exact IntWalk.i64_in _ (by have := oTr f24; omega))) fun Al W I => o0n 1 I J0 fun Al W U I => hJ0 (gk0 - 1) _ _ _ _ _ ((by have := oTr f24; omega)) ⟨U, i + 1, p41, c41, rfl, rfl, rfl, (by have := oTr f24; omega)⟩ (I.pick [1, 2, 3, 4])
   refine zb I 24 (decide ((i : Int) < (((sV xs).length : Nat) : Int))) (false) (f24) fun Al W I => zret I (v := fun Al => .tuple #[.slice q7 i d7, vI 0]) fun Al W I => ?_
   first | (rw [(hE2 (bne_eq_false_iff_eq.1 h15) (by omega)).1, (hE2 (bne_eq_false_iff_eq.1 h15) (by omega)).2]; exact ⟨none, 0, rfl, OwnV.nil _ _ _, I.below⟩) | (rw [(hE3 (bne_eq_false_iff_eq.1 h15) (by omega)).1, (hE3 (bne_eq_false_iff_eq.1 h15) (by omega)).2]; have hi : i = xs.length := (by have := oFa f24; omega); have h9 := I.fa.1; rw [List.take_of_length_le (by rw [List.length_map]; omega)] at h9; exact ⟨q7, d7, by rw [hi, e0c, List.length_map], h9, I.below⟩)
 refine zqd I (fun Al W I => (HW W).out) (show (decide (1 ≤ k) && decide (k ≤ 60)) = false from (by rw [← Bool.decide_and]; exact dFa hk)) fun Al W I => zret I (v := fun Al => .tuple #[.slice none 0 0, vI 3]) fun Al W I => ?_
 (rw [(hE2 (bne_eq_false_iff_eq.1 h15) (by omega)).1, (hE2 (bne_eq_false_iff_eq.1 h15) (by omega)).2]; exact ⟨none, 0, rfl, OwnV.nil _ _ _, I.below⟩)
theorem and0 (n : Int) : bits .and .i64 n 0 = 0 := by
 show IntKind.i64.wrap ((BitVec.ofInt 64 n &&& BitVec.ofInt 64 0).toNat : Nat) = 0
 rw [show BitVec.ofInt 64 0 = 0#64 from rfl, BitVec.and_zero]
 rfl
def txAt (vs : List Value) (i : Nat) : ByteArray := match vs[i]? with | some (.string s) => s | _ => ByteArray.empty
theorem t0i {xs : List ByteArray} {i : Nat} {s : ByteArray} (h : xs[i]? = some s) : txAt (sV xs) i = s := by unfold txAt; rw [p0d h]
def h1q (n way : Int) (x y : ByteArray) (R : Vr × Nat) : ByteArray := if errR n way [x, y] = 0 then strR n R.1 else a0d []
def flR2 (n way : Int) (x y : ByteArray) (R : Vr × Nat) : Nat := if errR n way [x, y] = 0 then R.2 else 0
theorem n1x {n way : Int} {x y : ByteArray} {R : Vr × Nat} {w : World} {en : Ending} {w' : World} (h : i0q n way [x, y] R w en w') : en = .returned (.tuple #[.string (h1q n way x y R), .int .i64 ((flR2 n way x y R : Nat) : Int), .int .i64 (errR n way [x, y])]) ∧ Below w.heap.size w w' := by
 refine ⟨?_, h.2⟩
 have h := h.1
 unfold h1q flR2
 by_cases h0 : errR n way [x, y] = 0
 · rw [if_pos h0] at h ⊢
   rw [if_pos h0]
   exact h
 · rw [if_neg h0] at h ⊢
   rw [if_neg h0]
   exact h
def twoF (s : St) (R : ByteArray → ByteArray → Vr × Nat) : St × Int :=
 h0i 2 s ((flR2 s.f s.a (txAt s.vs (s.vs.length - 2)) (txAt s.vs (s.vs.length - 1)) (R (txAt s.vs (s.vs.length - 2)) (txAt s.vs (s.vs.length - 1))) : Nat) : Int) (errR s.f s.a [txAt s.vs (s.vs.length - 2), txAt s.vs (s.vs.length - 1)])
  (if errR s.f s.a [txAt s.vs (s.vs.length - 2), txAt s.vs (s.vs.length - 1)] = 0 then s.vs.take (s.vs.length - 2) ++ [.string (h1q s.f s.a (txAt s.vs (s.vs.length - 2)) (txAt s.vs (s.vs.length - 1)) (R (txAt s.vs (s.vs.length - 2)) (txAt s.vs (s.vs.length - 1))))] else s.vs.take (s.vs.length - 2))
def q0v (s : St) (t : ByteArray) : St × Int :=
 h0i 0 s (t0f (a0j s.f s.a (a0a t)) s.vs.length ((flP' s.f s.a (a0a t) : Nat) : Int)) (d0b (a0j s.f s.a (a0a t)) s.vs.length) (if d0b (a0j s.f s.a (a0a t)) s.vs.length = 0 then s.vs ++ [.string (outP s.f s.a (a0a t))] else s.vs)
def z0v (s : St) : St × Int :=
 h0i 1 s 0 (d0b 0 s.vs.length) (if d0b 0 s.vs.length = 0 then s.vs ++ [.string (txAt s.vs (s.vs.length - 1))] else s.vs)
def f0y (s : St) (o : OpT) : St × Int :=
 if o.d = 1 then q0v s o.t
 else if o.d = 11 then z0v s
 else if o.d = 3 then twoF s fun x y => (fmt s.f).addM (refD s.f x) (refD s.f y) s.a
 else twoF s fun x y => (fmt s.f).mulM (refD s.f x) (refD s.f y) s.a
def c1o (s : St) : Prop := ∃ xs, s.vs = sV xs ∧ xs.length ≤ 16
def okOp (o : OpT) : Prop := o.d = 1 ∨ o.d = 11 ∨ o.d = 3 ∨ o.d = 5
theorem m1e {xs : List ByteArray} (h : 2 ≤ xs.length) : (sV xs).drop ((sV xs).length - 2) = [.string (txAt (sV xs) ((sV xs).length - 2)), .string (txAt (sV xs) ((sV xs).length - 1))] := by
 rw [e0c, t0i (List.getElem?_eq_getElem (show xs.length - 2 < xs.length by omega)), t0i (List.getElem?_eq_getElem (show xs.length - 1 < xs.length by omega))]
 apply List.ext_getElem?
 intro i
 rw [List.getElem?_drop]
 match i with
 | 0 => rw [p0d (List.getElem?_eq_getElem (show xs.length - 2 + 0 < xs.length by omega))]; rfl
 | 1 => rw [show xs.length - 2 + 1 = xs.length - 1 by omega, p0d (List.getElem?_eq_getElem (show xs.length - 1 < xs.length by omega))]; rfl
 | i + 2 => rw [List.getElem?_eq_none (by rw [e0c]; omega)]; rfl
theorem m1f (s : St) (o : OpT) (p : OA) (c : Nat) (W : World) (ho : okOp o) (hg : c1o s) (hT : TabW W) (hr : RdV W p s.vs) : Calls Tryz.prog 18 #[stV s.f s.a s.g s.r p s.vs.length c, opV o.d o.n o.t] W (m0o W p c (f0y s o)) := by
 obtain ⟨xs, hv, hl⟩ := hg
 have hl2 : s.vs.length ≤ 16 := by rw [hv, e0c]; exact hl
 have h1 : s.vs.all (·.oneCell') = true := by rw [hv]; exact n1w xs
 have hlast : 1 ≤ s.vs.length → s.vs[s.vs.length - 1]? = some (.string (txAt s.vs (s.vs.length - 1))) := fun h => by
  rw [hv, e0c] at h ⊢
  have h2 := List.getElem?_eq_getElem (show xs.length - 1 < xs.length by omega)
  rw [p0d h2, t0i h2]
 have hdr : 2 ≤ s.vs.length → s.vs.drop (s.vs.length - 2) = [.string (txAt s.vs (s.vs.length - 2)), .string (txAt s.vs (s.vs.length - 1))] := fun h => by
  rw [hv] at h ⊢
  rw [e0c] at h
  exact m1e h
 unfold f0y
 obtain ⟨d, n, t⟩ := o
 dsimp only
 rcases ho with h | h | h | h <;> (have h : d = _ := h; subst h)
 · rw [if_pos rfl]
   exact h1o s n t p c W hT hr hl2 h1
 · rw [if_neg (by decide), if_pos rfl]
   exact c1k s n t _ p c W hT hr hl2 h1 hlast
 · rw [if_neg (by decide), if_neg (by decide), if_pos rfl]
   exact z0s s 3 n t 11 (fun _ _ => by kernel_rfl) (fun W => lHd (t1s W)) _ _ _ _ _ p c W hT hr hl2 h1 hdr fun W h => lHd ((t0c _ _ _ _ W h).mono fun _ _ h => n1x h)
 · rw [if_neg (by decide), if_neg (by decide), if_neg (by decide)]
   exact z0s s 5 n t 80 (fun _ _ => by kernel_rfl) (fun W => lHd (t1t W)) _ _ _ _ _ p c W hT hr hl2 h1 hdr fun W h => lHd ((l1p _ _ _ _ W h).mono fun _ _ h => n1x h)
theorem m0f {need : Nat} {s : St} {fl er : Int} {us : List Value} (h : (h0i need s fl er us).2 = 0) : ¬ s.vs.length < need ∧ er = 0 ∧ (h0i need s fl er us).1.vs = us := by
 unfold h0i at h ⊢
 split at h
 · cases h
 · rename_i h1
   split at h
   · rename_i h2; exact absurd h h2
   · rename_i h2
     split at h
     · cases h
     · rename_i h3
       refine ⟨h1, Classical.not_not.1 h2, ?_⟩
       rw [if_neg h1, if_neg h2, if_neg h3]
theorem i0u {need : Nat} {s : St} {fl er : Int} {us : List Value} (h : (h0i need s fl er us).2 ≠ 0) : (h0i need s fl er us).1.vs = s.vs := by
 unfold h0i at h ⊢
 split
 · rfl
 · split
   · rfl
   · split
     · rfl
     · rename_i h1 h2 h3
       rw [if_neg h1, if_neg h2, if_neg h3] at h
       exact absurd rfl h
theorem h1r (s : St) (o : OpT) (h : (f0y s o).2 ≠ 0) : (f0y s o).1.vs = s.vs := by
 unfold f0y at h ⊢
 split at h
 · rename_i h1; rw [if_pos h1]; exact i0u h
 · rename_i h1; rw [if_neg h1]
   split at h
   · rename_i h2; rw [if_pos h2]; exact i0u h
   · rename_i h2; rw [if_neg h2]
     split at h
     · rename_i h3; rw [if_pos h3]; exact i0u h
     · rename_i h3; rw [if_neg h3]; exact i0u h
theorem q0w {er : Int} {n : Nat} (h : d0b er n = 0) : er = 0 ∧ n ≠ 16 := by
 unfold d0b at h
 split at h
 · cases h
 · rename_i h1; exact ⟨h, fun k => h1 ⟨h, k⟩⟩
theorem v0u {s : St} {R : ByteArray → ByteArray → Vr × Nat} (hg : c1o s) (h : (twoF s R).2 = 0) : c1o (twoF s R).1 := by
 obtain ⟨xs, hv, hl⟩ := hg
 unfold twoF at h ⊢
 obtain ⟨h1, h2, h3⟩ := m0f h
 rw [if_pos h2] at h3
 refine ⟨xs.take (xs.length - 2) ++ [h1q s.f s.a (txAt s.vs (s.vs.length - 2)) (txAt s.vs (s.vs.length - 1)) (R (txAt s.vs (s.vs.length - 2)) (txAt s.vs (s.vs.length - 1)))], ?_, ?_⟩
 · rw [if_pos h2, h3, ← z0t]
   congr 1
   rw [hv, e0c]
   unfold sV
   rw [List.map_take]
 · rw [hv, e0c] at h1
   rw [List.length_append, List.length_take, List.length_singleton]
   omega
theorem h1s (s : St) (o : OpT) (hg : c1o s) (h : (f0y s o).2 = 0) : c1o (f0y s o).1 := by
 unfold f0y at h ⊢
 split at h
 · rename_i h1; rw [if_pos h1]
   obtain ⟨xs, hv, hl⟩ := hg
   unfold q0v at h ⊢
   obtain ⟨a1, a2, a3⟩ := m0f h
   rw [if_pos a2] at a3
   have := q0w a2
   rw [hv, e0c] at this
   refine ⟨xs ++ [outP s.f s.a (a0a o.t)], by rw [if_pos a2, a3, hv, z0t], by rw [List.length_append, List.length_singleton]; omega⟩
 · rename_i h1; rw [if_neg h1]
   split at h
   · rename_i h2; rw [if_pos h2]
     obtain ⟨xs, hv, hl⟩ := hg
     unfold z0v at h ⊢
     obtain ⟨a1, a2, a3⟩ := m0f h
     rw [if_pos a2] at a3
     have := q0w a2
     rw [hv, e0c] at this
     refine ⟨xs ++ [txAt s.vs (s.vs.length - 1)], by rw [if_pos a2, a3, ← z0t, hv], by rw [List.length_append, List.length_singleton]; omega⟩
   · rename_i h2; rw [if_neg h2]
     split at h
     · rename_i h3; rw [if_pos h3]; exact v0u hg h
     · rename_i h3; rw [if_neg h3]; exact v0u hg h
theorem z0w (f a g r : Int) (xs : List ByteArray) (l : List OpT) (p pl : OA) (c cl : Nat) (w : World) (hr : RdV w p (sV xs)) (hlr : RdV w pl (e0h l)) (hl : xs.length ≤ 9223372036854775807) (hll : l.length ≤ 9223372036854775807) (hT : TabW w) (hok : ∀ o, o ∈ l → okOp o) :
 Calls Tryz.prog 9 #[stV f a g r p (sV xs).length c, .slice pl l.length cl] w (m1b w (runR f0y ⟨f, a, g, r, sV xs⟩ xs l)) :=
 q1y f0y c1o f a g r xs l p pl c cl w hr hlr hl hll hT (fun h => ⟨xs, rfl, (n0c h).2.2.2.1⟩) (fun s o _ h h2 => h1s s o h h2) h1r fun s o p c W ho hg hT hr => m1f s o p c W (hok o ho) hg hT hr
/-! ### What comes of it, where all goes well -/
theorem t0j {f a g : Int} {vs : List Value} {t : ByteArray} (h : a0j f a (a0a t) = 0) (hl : vs.length < 16) : q0v ⟨f, a, g, 0, vs⟩ t = (⟨f, a, bits .or .i64 g ((flP' f a (a0a t) : Nat) : Int), 0, vs ++ [.string (outP f a (a0a t))]⟩, 0) := by
 have h1 : d0b (a0j f a (a0a t)) vs.length = 0 := by unfold d0b; rw [if_neg (by omega)]; exact h
 have h2 : t0f (a0j f a (a0a t)) vs.length ((flP' f a (a0a t) : Nat) : Int) = ((flP' f a (a0a t) : Nat) : Int) := by unfold t0f; rw [if_neg (by omega)]
 unfold q0v
 dsimp only
 rw [h1, h2, if_pos rfl, i0t (s := ⟨f, a, g, 0, vs⟩) (by omega) rfl (and0 _)]
theorem z0x {f a g r : Int} {vs : List Value} {t : ByteArray} (h : a0j f a (a0a t) ≠ 0) : q0v ⟨f, a, g, r, vs⟩ t = (⟨f, a, g, r, vs⟩, a0j f a (a0a t)) := by
 have h1 : d0b (a0j f a (a0a t)) vs.length = a0j f a (a0a t) := by unfold d0b; rw [if_neg fun k => h k.1]
 unfold q0v
 dsimp only
 rw [h1, l0k (s := ⟨f, a, g, r, vs⟩) (by omega) h]
theorem q1z {f a g : Int} {xs : List ByteArray} {s : ByteArray} (hs : xs[xs.length - 1]? = some s) (hl : xs.length < 16) (h1 : 1 ≤ xs.length) : z0v ⟨f, a, g, 0, sV xs⟩ = (⟨f, a, bits .or .i64 g 0, 0, sV xs ++ [.string s]⟩, 0) := by
 have h2 : d0b 0 (sV xs).length = 0 := by unfold d0b; rw [if_neg (by rw [e0c]; omega)]
 unfold z0v
 dsimp only
 rw [h2, if_pos rfl, i0t (s := ⟨f, a, g, 0, sV xs⟩) (by show ¬ (sV xs).length < 1; rw [e0c]; omega) rfl (and0 _), e0c, t0i hs]
theorem n1y {f a g : Int} {x y : ByteArray} {R : ByteArray → ByteArray → Vr × Nat} (h : errR f a [x, y] = 0) : twoF ⟨f, a, g, 0, sV [x, y]⟩ R = (⟨f, a, bits .or .i64 g (((R x y).2 : Nat) : Int), 0, sV [strR f (R x y).1]⟩, 0) := by
 unfold twoF
 dsimp only
 have e1 : txAt (sV [x, y]) ((sV [x, y]).length - 2) = x := rfl
 have e2 : txAt (sV [x, y]) ((sV [x, y]).length - 1) = y := rfl
 rw [e1, e2, h, if_pos rfl, i0t (s := ⟨f, a, g, 0, sV [x, y]⟩) (by show ¬ 2 < 2; omega) rfl (and0 _)]
 unfold h1q flR2
 rw [if_pos h, if_pos h]
 rfl
theorem k0b {F : St → OpT → St × Int} {s s' : St} {o : OpT} {l : List OpT} {i : Nat} (h : F s o = (s', 0)) : runL F s (o :: l) i = runL F s' l (i + 1) := by
 show (if (F s o).2 = 0 then _ else _) = _
 rw [h, if_pos rfl]
theorem z0y {F : St → OpT → St × Int} {s s' : St} {o : OpT} {l : List OpT} {i : Nat} {e : Int} (h : F s o = (s', e)) (he : e ≠ 0) : runL F s (o :: l) i = (s', i, e) := by
 show (if (F s o).2 = 0 then _ else _) = _
 rw [h, if_neg he]
theorem v0v : a0j 2 1 [50] = 0 := by decide +kernel
theorem t0k {n way : Int} {l : List Nat} (h : a0j n way l = 0) : IsFm n ∧ (1 ≤ way ∧ way ≤ 5) ∧ a0p n (outP n way l) = 0 := by
 have hn : IsFm n := by unfold a0j at h; split at h; assumption; cases h
 have h1 := h
 unfold a0j at h1
 rw [if_pos hn] at h1
 split at h1
 · rename_i h2
   unfold errQ at h1
   rw [if_pos hn] at h1
   split at h1
   · rename_i h3
     refine ⟨hn, h3, ?_⟩
     unfold outP
     rw [if_pos h]
     have hok := x0x h2
     unfold fitQ
     by_cases h0 : (ratL l).2.1 = 0
     · rw [if_pos h0]
       exact (l0j hn (r := ⟨1, false, vz⟩) ⟨⟨Nat.le_refl 1, by show 1 ≤ 5; decide⟩, fun _ h => absurd h (show ¬ false = true by decide), fun h => absurd h (show ¬ 1 = 2 by decide), fun h => absurd h (show ¬ 1 = 3 by decide), fun h => absurd h (show ¬ 1 = 4 by decide), fun h => absurd h (show ¬ 1 = 5 by decide), fun _ => rfl⟩).1
     · rw [if_neg h0]
       exact (l0j hn (f0j (b0r hn) (by have := hok.d0; omega)).1).1
   · cases h1
 · rename_i h2
   exact absurd h1 h2
theorem z0z {n way : Int} {x y : ByteArray} (hn : IsFm n) (hw : 1 ≤ way ∧ way ≤ 5) (hx : a0p n x = 0) (hy : a0p n y = 0) : errR n way [x, y] = 0 := by
 unfold errR
 rw [if_pos hn, if_pos (by unfold errL; rw [if_pos hx]; unfold errL; rw [if_pos hy]; rfl), if_pos hw]
def p0e : List OpT := [⟨1, 0, ⟨#[50]⟩⟩, ⟨11, 0, ByteArray.empty⟩, ⟨5, 0, ByteArray.empty⟩]
theorem h1t : ∃ G z, runR f0y ⟨2, 1, 0, 0, sV []⟩ [] p0e = (⟨2, 1, G, 0, sV [z]⟩, 3, 0) := by
 obtain ⟨hn, hw, hP⟩ := t0k (n := 2) (way := 1) (l := [50]) v0v
 have e1 : f0y ⟨2, 1, 0, 0, sV []⟩ ⟨1, 0, ⟨#[50]⟩⟩ = _ := (if_pos rfl).trans (t0j (g := 0) (vs := sV []) (t := ⟨#[50]⟩) v0v (by decide))
 rw [show sV [] ++ [Value.string (outP 2 1 (a0a ⟨#[50]⟩))] = sV [outP 2 1 [50]] from rfl] at e1
 unfold runR
 rw [if_neg (by decide), if_neg (by decide)]
 generalize outP 2 1 [50] = P at *
 generalize bits .or .i64 0 ((flP' 2 1 (a0a ⟨#[50]⟩) : Nat) : Int) = g1 at *
 have e2 : f0y ⟨2, 1, g1, 0, sV [P]⟩ ⟨11, 0, ByteArray.empty⟩ = _ := ((if_neg (by decide)).trans (if_pos rfl)).trans (q1z (g := g1) (xs := [P]) (s := P) rfl (show 1 < 16 by decide) (Nat.le_refl 1))
 rw [show sV [P] ++ [Value.string P] = sV [P, P] from rfl] at e2
 generalize bits .or .i64 g1 0 = g2 at *
 have e3 : f0y ⟨2, 1, g2, 0, sV [P, P]⟩ ⟨5, 0, ByteArray.empty⟩ = _ := ((if_neg (by decide)).trans ((if_neg (by decide)).trans (if_neg (by decide)))).trans (n1y (g := g2) (z0z hn hw hP hP))
 unfold p0e
 rw [k0b e1, k0b e2, k0b e3]
 exact ⟨_, _, rfl⟩
theorem v0w (G : Int) (z : ByteArray) (hR : runR f0y ⟨2, 1, 0, 0, sV []⟩ [] p0e = (⟨2, 1, G, 0, sV [z]⟩, 3, 0)) (pl : OA) (cl : Nat) (w : World) (hr : RdV w pl (e0h p0e)) (hT : TabW w) : Calls Tryz.prog 9 #[.agg #[.int .i64 2, .int .i64 1, .int .i64 0, .int .i64 0, .slice none 0 0], .slice pl 3 cl] w
 fun en w' => ∃ p c, en = .returned (.tuple #[.agg #[.int .i64 2, .int .i64 1, .int .i64 G, .int .i64 0, .slice p 1 c], .int .i64 3, .int .i64 0]) ∧ OwnV w' w.heap.size 9 p c (sV [z]) ∧ Below w.heap.size w w' := by
 have h := z0w 2 1 0 0 [] p0e none pl 0 cl w (RdV.nil _ _) hr (by decide) (by decide) hT (fun o ho => by
   unfold p0e at ho
   simp only [List.mem_cons, List.not_mem_nil, or_false] at ho
   rcases ho with rfl | rfl | rfl
   · exact .inl rfl
   · exact .inr (.inl rfl)
   · exact .inr (.inr (.inr rfl)))
 rw [hR] at h
 exact h
theorem h0l (w : World) (hT : TabW w) : Calls Tryz.prog 6 #[] w fun en w' => en = .returned (.bool true) ∧ Below w.heap.size w w' := by
 obtain ⟨G, z, hR⟩ := h1t
 have HR := fun pl cl W h h2 => lHd (v0w G z hR pl cl W h h2)
 clear hR
 have I := Inv.start w [tabF] ⟨hT, True.intro⟩
 refine a0c [] I Tryz.func6 ?_
 refine zg I (fun Al W I => (HR (some ⟨(lk 0 Al 0), 0, none⟩) 3 W (u0j (vs := e0h p0e) (I.box 0 30 _)) I.fa.1).out) fun Al V Iv _ hB _ kz => ?_
 rintro _ W ⟨p10, c10, rfl, o10, hb⟩
 refine ⟨_, rfl, kz _ _ hb fun I => ?_⟩
 have I := I.ownv o10
 exact zrb I
theorem m1g {g : Bool} {s : List Nat} {p : Int} (h : Byt s) : Byt (numT g s p) := by
 unfold numT
 refine Byt.append ?_ (Byt.append (h.take 1) (Byt.append ?_ fun y hy => ?_))
 · intro y hy; cases g <;> simp at hy; omega
 · intro y hy
   split at hy
   · rcases List.mem_cons.1 hy with h1 | h1
     · omega
     · exact h.drop 1 y h1
   · cases hy
 · rcases List.mem_cons.1 hy with h1 | h1
   · omega
   · exact h1j p y h1
theorem m1h {g : Bool} {s : List Nat} {p : Int} (hp : -100000 < p ∧ p < 100000) (h0 : 1 ≤ s.length) : (numT g s p).length ≤ s.length + 10 := by
 have hil : (f0x p).length ≤ 6 := by
  have h : (a0z p.natAbs).length ≤ 5 := (b0f _ 5 (by omega)).2 (by omega)
  unfold f0x
  split
  · rw [List.length_cons, show (-p).toNat = p.natAbs by omega]; omega
  · rw [show p.toNat = p.natAbs by omega]; omega
 unfold numT
 have h1 : (if g = true then [45] else [] : List Nat).length ≤ 1 := by cases g <;> simp
 have h2 : (if 1 < s.length then 46 :: s.drop 1 else [] : List Nat).length ≤ s.length := by split <;> simp; omega
 rw [List.length_append, List.length_append, List.length_append, List.length_cons, List.length_take]
 omega
theorem v0x {n : Int} {r : Vr} {k : Nat} (hn : IsFm n) (h0 : r.x.m ≠ 0) (F : VrOk r) (hin : a0s r.x (fmt n).g = true) (hk : 1 ≤ k ∧ k ≤ 60) :
 errT (a0a (a0d (numT r.x.neg (numX r.x k).1 (numX r.x k).2))).length (numl (a0a (a0d (numT r.x.neg (numX r.x k).1 (numX r.x k).2)))) = 0 ∧ ratL (a0a (a0d (numT r.x.neg (numX r.x k).1 (numX r.x k).2))) = ratX r.x k := by
 have A := i0p (k := k) h0 F.len hk.1
 have B := p1y (k := k) (b0r hn).g h0 F.len hin hk.1
 rw [a0y (m1g (t0h A.2.1))]
 have hl := m1h (g := r.x.neg) (s := (numX r.x k).1) (p := (numX r.x k).2) (by omega) (by omega)
 have hN := f1b (neg := r.x.neg) A.1 hk.1 A.2.1 (show -100000 < (numX r.x k).2 ∧ (numX r.x k).2 < 100000 by omega)
 unfold ratX
 generalize numX r.x k = q at *
 generalize numT r.x.neg q.1 q.2 = L at *
 exact h1h (by omega) hN (by simp only; omega)
theorem h1u {n : Int} {r : Vr} {k : Nat} (hn : IsFm n) (h0 : r.x.m ≠ 0) (F : VrOk r) (hin : a0s r.x (fmt n).g = true) (hk : 1 ≤ k ∧ k ≤ 60) : b1x (ratX r.x k) ∧ 0 < (ratX r.x k).2.1 ∧ (ratX r.x k).1 = r.x.neg := by
 have h := v0x hn h0 F hin hk
 have A := i0p (k := k) h0 F.len hk.1
 have hq : b1x (ratX r.x k) := h.2 ▸ x0x h.1
 clear h
 unfold ratX at *
 obtain ⟨g, num, den, e, hr⟩ : ∃ g num den e, f0r ⟨r.x.neg, (numX r.x k).1, (numX r.x k).2 - ((k - 1 : Nat) : Int)⟩ = (g, num, den, e) := ⟨_, _, _, _, rfl⟩
 obtain ⟨a1, a2, _, _⟩ := u0i (by simp only; omega) hr
 rw [hr] at hq ⊢
 exact ⟨hq, a2, a1⟩
theorem h1v {n : Int} {r : Vr} {k : Nat} (hn : IsFm n) (h0 : r.x.m ≠ 0) (F : VrOk r) (hin : a0s r.x (fmt n).g = true) (hk : 1 ≤ k ∧ k ≤ 60) : ResF (fmt n) (g0o (fmt n) r.x k) ∧ (fitQ n (ratX r.x k) 1).1 = g0o (fmt n) r.x k := by
 have R := h1u hn h0 F hin hk
 have hf : (fitQ n (ratX r.x k) 1).1 = g0o (fmt n) r.x k := by
  unfold fitQ
  rw [if_neg (by have := R.2.1; omega)]
  rfl
 exact ⟨(f0j (b0r hn) R.1.d0).1, hf⟩
theorem a1a {n : Int} {s : ByteArray} (h0 : a0p n s = 0) : decP n s = (fmt n).toV (refD n s) := by
 obtain ⟨hn, hs⟩ := b0h.1 h0
 have he : (fmt n).exp (a0q (fmt n) s) < 2 ^ (fmt n).E := Nat.mod_lt _ (Nat.pow_pos (by omega))
 have hp := p1g (b0r hn) ((fmt n).neg (a0q (fmt n) s)) (frac := (fmt n).frac (a0q (fmt n) s)) he
 unfold decP
 rw [if_pos h0]
 exact (j1j _ _ ((fmt n).decN (a0q (fmt n) s)) (by unfold Fm.decN; omega) (by unfold Fm.decN; omega)).symm
theorem m1i {n : Int} {s t : ByteArray} (h1 : a0p n s = 0) (h2 : a0p n t = 0) (hc : (refD n s).cls = 2) (hc2 : (refD n t).cls = 2 → (refD n t).x.neg = (refD n t).neg) :
 decide ((decP n s).cls = (decP n t).cls ∧ (decP n s).neg = (decP n t).neg ∧ (decP n s).pow = (decP n t).pow ∧ (decP n s).d = (decP n t).d) =
  decide ((refD n t).cls = 2 ∧ (refD n t).x.neg = (refD n s).x.neg ∧ (refD n t).x.m = (refD n s).x.m ∧ (refD n t).x.e = (refD n s).x.e) := by
 have V := h0f h1
 have U := h0f h2
 have F := (f0d (s := s) (b0h.1 h1).1).ok
 rw [decide_eq_decide]
 constructor
 · rintro ⟨q1, q2, q3, q4⟩
   have k2 : (refD n t).cls = 2 := by rw [← U.cls, ← q1, V.cls]; exact hc
   have := U.num k2
   rw [← q2, ← q3, ← q4, V.num hc] at this
   exact ⟨k2, by rw [this], by rw [this], by rw [this]⟩
 · rintro ⟨q1, q2, q3, q4⟩
   have hx : (refD n t).x = (refD n s).x := by
    cases hq : (refD n t).x; cases hq' : (refD n s).x
    rw [hq, hq'] at q2 q3 q4
    simp only at q2 q3 q4
    rw [q2, q3, q4]
   have hr : refD n t = refD n s := by
    have hng : (refD n t).neg = (refD n s).neg := by rw [← hc2 q1, ← (F.x2 hc).2, hx]
    cases hq : refD n t; cases hq' : refD n s
    rw [hq, hq'] at hx hng
    rw [hq] at q1
    rw [hq'] at hc
    simp only at hx hng q1 hc
    rw [hx, hng, q1, hc]
   rw [a1a h1, a1a h2, hr]
   exact ⟨rfl, rfl, rfl, rfl⟩
theorem bad1 {x o u g : Bool} (h : (!x) = true) : true = !(x && (!o && (!u || g))) := by revert h; cases x <;> simp
theorem bad2 {x o u g : Bool} (h : o = true) : true = !(x && (!o && (!u || g))) := by subst h; cases x <;> simp
theorem bad3 {x o u g : Bool} (h : (!x) = false) (h2 : o = false) (h3 : u = false) : false = !(x && (!o && (!u || g))) := by subst h2 h3; revert h; cases x <;> simp
theorem bad4 {x o u g : Bool} (h : (!x) = false) (h2 : o = false) (h3 : u = true) : (!g) = !(x && (!o && (!u || g))) := by subst h2 h3; revert h; cases x <;> simp
structure v0y (n : Int) (v : Vl) (r : Vr) (k : Nat) : Prop where
 er : errT (a0a (a0d (numT v.neg (numX r.x k).1 (numX r.x k).2))).length (numl (a0a (a0d (numT v.neg (numX r.x k).1 (numX r.x k).2)))) = 0
 rt : ratL (a0a (a0d (numT v.neg (numX r.x k).1 (numX r.x k).2))) = ratX r.x k
 ok : b1x (ratX r.x k)
 out : outQ n 1 (ratX r.x k) = strR n (g0o (fmt n) r.x k)
 eq : errQ n 1 = 0
 pat : a0p n (strR n (g0o (fmt n) r.x k)) = 0
 ref : refD n (strR n (g0o (fmt n) r.x k)) = g0o (fmt n) r.x k
 same : decide (v.cls = (decP n (strR n (g0o (fmt n) r.x k))).cls ∧ v.neg = (decP n (strR n (g0o (fmt n) r.x k))).neg ∧ v.pow = (decP n (strR n (g0o (fmt n) r.x k))).pow ∧ v.d = (decP n (strR n (g0o (fmt n) r.x k))).d) = okX (fmt n) r.x k
 len : (dig B32 (decP n (strR n (g0o (fmt n) r.x k))).d).length ≤ 1000
theorem t1u {n : Int} {s : ByteArray} {k : Nat} (h0 : a0p n s = 0) (hc : (refD n s).cls = 2) (hin : a0s (refD n s).x (fmt n).g = true) (hk : 1 ≤ k ∧ k ≤ 60) : v0y n (decP n s) (refD n s) k := by
 have hn := (b0h.1 h0).1
 have F := (f0d (s := s) hn).ok
 have N := x0z h0 hc
 have A := v0x hn N.x0 F hin hk
 have B := h1u hn N.x0 F hin hk
 have C := h1v hn N.x0 F hin hk
 have D := l0j hn C.1
 have eQ : errQ n 1 = 0 := by unfold errQ; rw [if_pos hn, if_pos (by omega)]
 rw [N.ng] at A
 have hs := m1i h0 D.1 hc (fun h => by rw [D.2] at h ⊢; exact (C.1.c2 h).2.2.2)
 rw [D.2] at hs
 exact ⟨A.1, A.2, B.1, by unfold outQ; rw [if_pos eQ, C.2], eQ, D.1, D.2, hs, (h0f D.1).len⟩
def a1b (f : Fm) (r : Vr) : List Nat := if r.cls = 2 then numT r.neg (numX r.x (j0g f r.x)).1 (numX r.x (j0g f r.x)).2 else i0j r.cls r.neg
def c0t (n : Int) (s : ByteArray) : Int := if a0p n s = 0 then (if (refD n s).cls = 2 ∧ a0s (refD n s).x (fmt n).g = false then 4 else 0) else a0p n s
def e0p (n : Int) (s : ByteArray) : ByteArray := if c0t n s = 0 then a0d (a1b (fmt n) (refD n s)) else a0d []
theorem v0z (n : Int) (s : ByteArray) (w : World) (hT : TabW w) (hP : PowW w) : Calls Tryz.prog 16 #[.int .i64 n, .string s] w fun en w' => en = .returned (.tuple #[.string (e0p n s), .int .i64 (c0t n s)]) ∧ Below w.heap.size w w' := by
 have HD := fun W h => lHd (g0r n s W h)
 have e1 : a0p n s ≠ 0 → c0t n s = a0p n s ∧ e0p n s = a0d [] := fun h => by
  have h1 : c0t n s = a0p n s := by unfold c0t; rw [if_neg h]
  unfold e0p
  rw [h1, if_neg h]
  exact ⟨rfl, rfl⟩
 have e2 : a0p n s = 0 → (refD n s).cls = 2 → a0s (refD n s).x (fmt n).g = false → c0t n s = 4 ∧ e0p n s = a0d [] := fun h h' h'' => by
  have h1 : c0t n s = 4 := by unfold c0t; rw [if_pos h, if_pos ⟨h', h''⟩]
  unfold e0p
  rw [h1]
  exact ⟨rfl, rfl⟩
 have e3 : a0p n s = 0 → ((refD n s).cls = 2 → a0s (refD n s).x (fmt n).g = true) → c0t n s = 0 ∧ e0p n s = a0d (a1b (fmt n) (refD n s)) := fun h h' => by
  have h1 : c0t n s = 0 := by unfold c0t; rw [if_pos h, if_neg (fun k => by have := h' k.1; rw [k.2] at this; cases this)]
  unfold e0p
  rw [h1]
  exact ⟨rfl, rfl⟩
 have hV := fun h => h0f (n := n) (s := s) h
 have hF : a0p n s = 0 → VrOk (refD n s) := fun h => (f0d (n := n) (s := s) (b0h.1 h).1).ok
 have hN := fun h h2 => x0z (n := n) (s := s) h h2
 have hG : a0p n s = 0 → f0c (fmt n).g := fun h => c0e (b0r (b0h.1 h).1).g
 have hB := fun (h : a0p n s = 0) h2 h3 k hk => t1u (k := k) h h2 h3 hk
 have hS : a0p n s = 0 → (refD n s).cls = 2 → a0s (refD n s).x (fmt n).g = true → _ := fun h h2 h3 => x0q (f := fmt n) (x := (refD n s).x) (b0r (b0h.1 h).1).g (p1z (b0h.1 h).1) (hF h).bare h3 (hN h h2).x0
 unfold a1b at e3
 generalize refD n s = r at *
 generalize decP n s = v at *
 generalize c0t n s = eo at *
 generalize e0p n s = oo at *
 generalize a0p n s = er at *
 have HGr := fun W => lHd (z0e n W)
 have HW := fun p c b W (h : Own W b .u32 139 p c (dig B32 v.d)) (h2 : 1 ≤ v.cls ∧ v.cls ≤ 5) h3 => lHd (z0q v p c b W h h2 h3)
 have HV := fun p c b W (h : Own W b .u32 139 p c (dig B32 v.d)) h2 => lHd (q0s n v p c b W h h2)
 have HFt := fun (N : NumV (fmt n) v r) (G : f0c (fmt n).g) p q c d W h1 h2 => lHd (v0j v.neg p q c d v.d 1 (wid (fmt n).g * v.pow) (fmt n).g 1 W h1 h2 (by have := N.len; omega) (Nat.le_trans ((a0g a0b 1 1).2 (by decide)) (by omega)) N.d0 (by omega) (by have := N.e; omega) G (by omega) (by omega))
 have hX := fun (N : NumV (fmt n) v r) (G : f0c (fmt n).g) => b1y (s := v.neg) (e := wid (fmt n).g * v.pow) (way := 1) N.d0 G
 have hbx : er = 0 → r.cls = 2 → bare ⟨v.neg, v.d, wid (fmt n).g * v.pow⟩ = r.x := fun h h2 => (hV h).num h2
 have HDc := fun (N : NumV (fmt n) v r) (k : Nat) (hk : 1 ≤ k ∧ k ≤ 60) p q a b b1 b2 W (h1 : Own W b1 .u32 139 p a (dig B32 v.d)) (h2 : Own W b2 .u32 139 q b (dig B32 1)) => lHd (by
   have h := m0n v.neg v.d (wid (fmt n).g * v.pow) k p q a b b1 b2 W h1 h2 N.d0 (by have := N.len; omega) N.e (by omega)
   rw [N.dec] at h
   exact h : Calls Tryz.prog 28 #[.agg #[.bool v.neg, .slice p (dig B32 v.d).length a, .slice q (dig B32 1).length b, .int .i64 (wid (fmt n).g * v.pow)], .int .i64 (k : Int)] W fun en w' => en = .returned (.tuple #[.string (a0d (numX r.x k).1), .int .i64 (numX r.x k).2]) ∧ Below W.heap.size W w')
 have HNu := fun (F : VrOk r) (N : NumV (fmt n) v r) (k : Nat) (hk : 1 ≤ k ∧ k ≤ 60) W (h : PowW W) => lHd (by
   have A := i0p (k := k) N.x0 F.len (by omega)
   have B := z0i (k := k) N.x0 F.len ⟨F.lo, F.hi⟩ (by omega)
   exact l0i v.neg (numX r.x k).1 (numX r.x k).2 W (t0h A.2.1) (fun h => by have := A.1; rw [h, List.length_nil] at this; omega) (by omega) (by omega) h)
 have HRa := fun (k : Nat) (B : v0y n v r k) W h => lHd (by
   have h := v0s (a0d (numT v.neg (numX r.x k).1 (numX r.x k).2)) W h
   rw [B.er, B.rt] at h
   exact h : Calls Tryz.prog 20 #[.string (a0d (numT v.neg (numX r.x k).1 (numX r.x k).2))] W (n0a W 0 (ratX r.x k)))
 have HFq := fun (k : Nat) (B : v0y n v r k) p q c d b1 b2 W h1 h2 h3 => lHd (by
   have h := z0r n 1 (ratX r.x k) p q c d b1 b2 W h1 h2 B.ok h3
   rw [B.out, B.eq] at h
   exact h)
 have HD2 := fun (k : Nat) (B : v0y n v r k) W h => lHd (by
   have h := g0r n (strR n (g0o (fmt n) r.x k)) W h
   rw [B.pat] at h
   exact h)
 have HSa := fun (N : NumV (fmt n) v r) (k : Nat) (B : v0y n v r k) p q c d b1 b2 W h1 h2 => lHd (by
   have h := l1v v (decP n (strR n (g0o (fmt n) r.x k))) p q c d b1 b2 W h1 h2 (by have := N.len; omega) (by have := B.len; omega)
   rw [B.same] at h
   exact h)
 generalize a0m v.neg v.d 1 (wid (fmt n).g * v.pow) (fmt n).g 1 = P at *
 generalize wid (fmt n).g * v.pow = E at *
 obtain ⟨wb, hwb⟩ : ∃ wb : Bool, (i0j v.cls v.neg = [] ↔ wb = false) := ⟨decide (v.cls ≠ 2), by rw [e0b]; simp⟩
 let aA : Box := ⟨76, [.v (.int .i64 ((fmt n).g.rad)), .v (.int .i64 ((fmt n).g.digs)), .v (.int .i64 ((fmt n).g.lo)), .v (.int .i64 ((fmt n).g.hi)), .v (.bool ((fmt n).g.grad))], false⟩
 have I := Inv.start w [tabF, powF] ⟨hT, hP, True.intro⟩
 refine a0c [.v (.int .i64 n), .v (.string s)] I Tryz.func16 ?_
 refine zqo I (fun Al W I => (HD W I.fa.1).out) fun Al W p16 c16 I => ?_
 rcases bTF (er != 0) with f31 | f31
 · refine zb I 31 (er != 0) (true) (f31) fun Al W I => zret I (v := fun Al => .tuple #[Go.Value.string (ByteArray.mk #[]), vI er]) fun Al W I => ?_
   first | (obtain ⟨h1, h2⟩ := e1 (bne_iff_ne.1 f31); rw [h1, h2]; exact ⟨rfl, I.below⟩) | (obtain ⟨h1, h2⟩ := e2 h0 hc (by simpa using hbd.symm); rw [h1, h2]; exact ⟨rfl, I.below⟩)
 refine zb I 31 (er != 0) (false) (f31) fun Al W I => ?_
 have h0 : er = 0 := bne_eq_false_iff_eq.1 f31
 have VR := hV h0
 have F := hF h0
 have G := hG h0
 refine zq I (fun Al W I => (HW p16 c16 _ W I.fa.1 (by rw [VR.cls]; exact F.c) I.fa.2.1).out) fun Al W I => ?_
 rcases bTF (wb) with f36 | f36
 · refine zbin I 36 (.bool true) (fun _ _ _ _ W => ((n0d (l0h _ _) hwb)).trans (congrArg (fun z => Result.ok (Value.bool z) W) (show (wb) = true from f36))) fun Al W I => zret I (v := fun Al => .tuple #[.string (a0d (i0j v.cls v.neg)), vI 0]) fun Al W I => ?_
   first | (have hc : r.cls ≠ 2 := fun h => (by have := hwb.1 (e0b.2 (VR.cls.trans h)); rw [this] at f36; cases f36); obtain ⟨q1, q2⟩ := e3 h0 (fun h => absurd h hc); rw [q1, q2, if_neg hc, ← VR.cls, ← VR.neg]; exact ⟨rfl, I.below⟩) | (obtain ⟨h1, h2⟩ := e2 h0 hc (by simpa using hbd.symm); rw [h1, h2]; exact ⟨rfl, I.below⟩)
 refine zbin I 36 (.bool false) (fun _ _ _ _ W => ((n0d (l0h _ _) hwb)).trans (congrArg (fun z => Result.ok (Value.bool z) W) (show (wb) = false from f36))) fun Al W I => ?_
 have hc : r.cls = 2 := by rw [← VR.cls]; exact e0b.1 (hwb.2 f36)
 have N := hN h0 hc
 have hX := hX N G
 rw [hbx h0 hc] at hX
 refine zq I (fun Al W I => (HGr W).out) fun Al W I => zqo I (fun Al W I => have hzW := I.bel.size; (HV p16 c16 _ W I.fa.1 (by have := VR.lo; have := VR.hi; omega)).out) fun Al W q36 d36 I => zqo I (fun Al W I => (HFt N G p16 q36 c16 d36 W I.fa.2.1.rd I.fa.1.rd).out) fun Al W p48 c48 I => zcut I (some 3000010) (fun fr bx gs => ∃ (U1 : Nat → Value) (bd : Bool), fr = (.v (vI n) :: .v (.string s) :: su 2 (.v (Go.Value.string (ByteArray.mk #[])) :: .v (vI 0) :: .p 0 0 :: .v (vI er) :: .v (.string (a0d (i0j v.cls v.neg))) :: .p 1 0 :: .v (U1 10) :: .p 2 0 :: .p 3 0 :: su 5 (.v (U1 18) :: vu :: .v (U1 20) :: su 2 (sw U1 23 8 (.v (.bool false) :: sw U1 32 4 (.v (.bool false) :: sw U1 37 27 (.v (.bool bd) :: sw U1 65 26 (vu :: sw U1 92 8 (vu :: .v (U1 101) :: [])))))))) : List SV) ∧ bx = [⟨61, [.v (vI (v.cls : Int)), .v (.bool v.neg), .v (vS (dig B32 v.d) p16 c16), .v (vI v.pow)], false⟩, aA, ⟨53, [.v (.bool v.neg), .v (vS (dig B32 v.d) p16 c16), .v (vS (dig B32 1) q36 d36), .v (vI E)], false⟩, ⟨84, [.v (.bool P.neg), .v (vS (dig B32 P.d) p48 c48), .v (vI P.pow), .v (.bool P.exact), .v (.bool P.over), .v (.bool P.under)], false⟩] ∧ gs = [ownF w.heap.size .u32 139 p48 c48 (dig B32 P.d), ownF w.heap.size .u32 139 q36 d36 (dig B32 1), ownF w.heap.size .u32 139 p16 c16 (dig B32 v.d), tabF, powF] ∧ (bd = !a0s r.x (fmt n).g)) ?_ ?_
 · intro J hJ Al W I
   rcases bTF (!P.exact) with f51 | f51
   · refine zb I 51 (!P.exact) (true) (f51) fun Al W I => a0i I J fun Al W U I => hJ _ _ _ _ _ ⟨U, true, rfl, rfl, rfl, (by rw [← hX]; unfold okP; exact bad1 f51)⟩ (I.pick [0, 1, 2, 3, 4])
   refine zb I 51 (!P.exact) (false) (f51) fun Al W I => ?_
   rcases bTF (P.over) with f54 | f54
   · refine zb I 54 (P.over) (true) (f54) fun Al W I => a0i I J fun Al W U I => hJ _ _ _ _ _ ⟨U, true, rfl, rfl, rfl, (by rw [← hX]; unfold okP; first | exact bad1 f51 | exact bad2 f54)⟩ (I.pick [0, 1, 2, 3, 4])
   refine zb I 54 (P.over) (false) (f54) fun Al W I => ?_
   rcases bTF (P.under) with f58 | f58
   · refine zb I 58 (P.under) (true) (f58) fun Al W I => a0i I J fun Al W U I => hJ _ _ _ _ _ ⟨U, !((fmt n).g.grad), rfl, rfl, rfl, (by rw [← hX]; unfold okP; first | exact bad1 f51 | exact bad2 f54 | exact bad3 f51 f54 f58 | exact bad4 f51 f54 f58)⟩ (I.pick [0, 1, 2, 3, 4])
   refine zb I 58 (P.under) (false) (f58) fun Al W I => a0i I J fun Al W U I => hJ _ _ _ _ _ ⟨U, false, rfl, rfl, rfl, (by rw [← hX]; unfold okP; first | exact bad1 f51 | exact bad2 f54 | exact bad3 f51 f54 f58 | exact bad4 f51 f54 f58)⟩ (I.pick [0, 1, 2, 3, 4])
 rintro _ _ _ ⟨U1, bd, rfl, rfl, rfl, hbd⟩ Al W I
 refine zcut I (some 2000064) (fun fr bx gs => ∃ (U2 : Nat → Value) , fr = (.v (vI n) :: .v (.string s) :: su 2 (sw U2 4 2 (.p 0 0 :: .v (vI er) :: .v (.string (a0d (i0j v.cls v.neg))) :: .p 1 0 :: .v (U2 10) :: .p 2 0 :: .p 3 0 :: su 5 (.v (U2 18) :: vu :: .v (U2 20) :: su 2 (sw U2 23 8 (.v (.bool false) :: sw U2 32 4 (.v (.bool false) :: sw U2 37 27 (.v (.bool bd) :: sw U2 65 26 (vu :: sw U2 92 8 (vu :: .v (U2 101) :: []))))))))) : List SV) ∧ bx = [⟨61, [.v (vI (v.cls : Int)), .v (.bool v.neg), .v (vS (dig B32 v.d) p16 c16), .v (vI v.pow)], false⟩, aA, ⟨53, [.v (.bool v.neg), .v (vS (dig B32 v.d) p16 c16), .v (vS (dig B32 1) q36 d36), .v (vI E)], false⟩, ⟨84, [.v (.bool P.neg), .v (vS (dig B32 P.d) p48 c48), .v (vI P.pow), .v (.bool P.exact), .v (.bool P.over), .v (.bool P.under)], false⟩] ∧ gs = [ownF w.heap.size .u32 139 p48 c48 (dig B32 P.d), ownF w.heap.size .u32 139 q36 d36 (dig B32 1), ownF w.heap.size .u32 139 p16 c16 (dig B32 v.d), tabF, powF] ∧ (a0s r.x (fmt n).g = true)) ?_ ?_
 · intro J hJ Al W I
   rcases bTF bd with rfl | rfl
   · refine zret I (v := fun Al => .tuple #[Go.Value.string (ByteArray.mk #[]), vI 4]) fun Al W I => ?_
     first | (have hc : r.cls ≠ 2 := fun h => (by have := hwb.1 (e0b.2 (VR.cls.trans h)); rw [this] at f36; cases f36); obtain ⟨q1, q2⟩ := e3 h0 (fun h => absurd h hc); rw [q1, q2, if_neg hc, ← VR.cls, ← VR.neg]; exact ⟨rfl, I.below⟩) | (obtain ⟨h1, h2⟩ := e2 h0 hc (by simpa using hbd.symm); rw [h1, h2]; exact ⟨rfl, I.below⟩)
   exact a0i I J fun Al W U I => hJ _ _ _ _ _ ⟨U, rfl, rfl, rfl, (by simpa using hbd.symm)⟩ (I.pick [0, 1, 2, 3, 4])
 rintro _ _ _ ⟨U2, rfl, rfl, rfl, hin⟩ Al W I
 obtain ⟨s1, s2, s3, s4⟩ := hS h0 hc hin
 have hB := hB h0 hc hin
 refine h0u I (fun gk fr bx gs => ∃ (U900 : Nat → Value) (k : Nat), fr = (.v (.int .i64 n) :: .v (.string s) :: su 2 (sw U900 4 2 (.p 0 0 :: .v (.int .i64 er) :: .v (.string (a0d (i0j v.cls v.neg))) :: .p 1 0 :: .v (U900 10) :: .p 2 0 :: .p 3 0 :: .v (.int .i64 (k : Int)) :: sw U900 14 17 (.v (.bool false) :: sw U900 32 4 (.v (.bool false) :: sw U900 37 27 (.v (.bool bd) :: sw U900 65 37 []))))) : List SV) ∧ bx = [⟨61, [.v (.int .i64 (v.cls : Int)), .v (.bool v.neg), .v (.slice p16 (dig B32 v.d).length c16), .v (.int .i64 v.pow)], false⟩, aA, ⟨53, [.v (.bool v.neg), .v (.slice p16 (dig B32 v.d).length c16), .v (.slice q36 (dig B32 1).length d36), .v (.int .i64 E)], false⟩, ⟨84, [.v (.bool P.neg), .v (.slice p48 (dig B32 P.d).length c48), .v (.int .i64 P.pow), .v (.bool P.exact), .v (.bool P.over), .v (.bool P.under)], false⟩] ∧ gs = [ownF w.heap.size .u32 139 p48 c48 (dig B32 P.d), ownF w.heap.size .u32 139 q36 d36 (dig B32 1), ownF w.heap.size .u32 139 p16 c16 (dig B32 v.d), tabF, powF] ∧ (1 ≤ k ∧ k ≤ j0g (fmt n) r.x) ∧ (gk + k = 31)) 30 (fun Al W U I => ⟨_, ⟨U, 1, rfl, rfl, rfl, (by omega), rfl⟩, I.pick [0, 1, 2, 3, 4]⟩) ?_
 rintro J0 gk0 _ _ _ ⟨U900, k, rfl, rfl, rfl, hk1, hgk⟩ hJ0 Al W I
 have B := hB k (by omega)
 refine zq I (fun Al W I => have hzW := I.bel.size; (HDc N k (by omega) p16 q36 c16 d36 _ _ W I.fa.2.2.1 I.fa.2.1).out) fun Al W I => zq I (fun Al W I => have hzW := I.bel.size; (HNu F N k (by omega) W I.fa.2.2.2.2.1).out) fun Al W I => zg I (fun Al W I => (HRa k B W I.fa.2.2.2.1).out) fun Al V Iv _ hB _ kz => ?_
 rintro _ W ⟨p80, c80, q80, d80, rfl, o80, r80, hb⟩
 refine ⟨_, rfl, kz _ _ hb fun I => ?_⟩
 have I := I.own o80
 have I := I.own r80
 refine zq I (fun Al W I => (HFq k B p80 q80 c80 d80 _ _ W I.fa.2.1 I.fa.1 I.fa.2.2.2.2.2.1).out) fun Al W I => zqo I (fun Al W I => (HD2 k B W I.fa.2.2.2.2.2.1).out) fun Al W p95 c95 I => ?_
 by_cases f100 : okX (fmt n) r.x k = true
 · refine zqd I (fun Al W I => (HSa N k B p16 p95 c16 c95 _ _ W I.fa.2.2.2.2.2.1 I.fa.1).out) (show (okX (fmt n) r.x k) = true from f100) fun Al W I => zret I (v := fun Al => .tuple #[.string (a0d (numT v.neg (numX r.x k).1 (numX r.x k).2)), vI 0]) fun Al W I => ?_
   first | (have hc : r.cls ≠ 2 := fun h => (by have := hwb.1 (e0b.2 (VR.cls.trans h)); rw [this] at f36; cases f36); obtain ⟨q1, q2⟩ := e3 h0 (fun h => absurd h hc); rw [q1, q2, if_neg hc, ← VR.cls, ← VR.neg]; exact ⟨rfl, I.below⟩) | (obtain ⟨h1, h2⟩ := e2 h0 hc (by simpa using hbd.symm); rw [h1, h2]; exact ⟨rfl, I.below⟩) | (have hkk : k = j0g (fmt n) r.x := (by rcases Nat.lt_or_ge k (j0g (fmt n) r.x) with h | h; (have := s4 k hk1.1 h; rw [this] at f100; cases f100); omega); obtain ⟨q1, q2⟩ := e3 h0 (fun _ => hin); rw [q1, q2, if_pos hc, ← VR.neg, hkk]; exact ⟨rfl, I.below⟩)
 refine zqd I (fun Al W I => (HSa N k B p16 p95 c16 c95 _ _ W I.fa.2.2.2.2.2.1 I.fa.1).out) (show (okX (fmt n) r.x k) = false from (by simpa using f100)) fun Al W I => zi I 66 .i64 ((k : Int) + 1) (((k + 1 : Nat) : Int)) ((by rw [show ((k : Int) + 1) = ((k + 1 : Nat) : Int) by omega]; exact iwo)) fun Al W I => o0n 4 I J0 fun Al W U I => hJ0 (gk0 - 1) _ _ _ _ _ ((by omega)) ⟨U, k + 1, rfl, rfl, rfl, (by have : k ≠ j0g (fmt n) r.x := fun h => (f100 (by rw [h]; exact s3)).elim; omega), (by omega)⟩ (I.pick [3, 4, 5, 6, 7])
theorem p0f : a0j 2 1 [48, 46, 49] = 0 ∧ flP' 2 1 [48, 46, 49] = 1 ∧ 0 < (ratL [48, 46, 49]).2.1 ∧ 0 < (ratL [48, 46, 49]).2.2.1 := by decide +kernel
theorem h1w : (fitQ 2 (ratL [48, 46, 49]) 1).1.cls = 2 ∧ (fitQ 2 (ratL [48, 46, 49]) 1).1.neg = false ∧ (fitQ 2 (ratL [48, 46, 49]) 1).1.x.neg = false ∧ (fitQ 2 (ratL [48, 46, 49]) 1).1.x.m = 3602879701896397 ∧ (fitQ 2 (ratL [48, 46, 49]) 1).1.x.e = -55 := by decide +kernel
theorem y0a : a0s ⟨false, 3602879701896397, -55⟩ (fmt 2).g = true ∧ a1b (fmt 2) ⟨2, false, ⟨false, 3602879701896397, -55⟩⟩ = [49, 101, 45, 49] := by decide +kernel
theorem h1x : c0t 2 (outP 2 1 [48, 46, 49]) = 0 ∧ e0p 2 (outP 2 1 [48, 46, 49]) = a0d [49, 101, 45, 49] := by
 obtain ⟨a1, a2, a3, a4⟩ := p0f
 obtain ⟨b1, b2, b3, b4, b5⟩ := h1w
 obtain ⟨c1, c2⟩ := y0a
 have hn : IsFm 2 := by decide
 have R := (f0j (b0r hn) (neg := (ratL [48, 46, 49]).1) (num := (ratL [48, 46, 49]).2.1) (e := (ratL [48, 46, 49]).2.2.2) (way := 1) a4).1
 have hf : (fitQ 2 (ratL [48, 46, 49]) 1).1 = ((fmt 2).placedM (a0m (ratL [48, 46, 49]).1 (ratL [48, 46, 49]).2.1 (ratL [48, 46, 49]).2.2.1 (ratL [48, 46, 49]).2.2.2 (fmt 2).g 1) 1).1 := by
  unfold fitQ
  rw [if_neg (by omega)]
 rw [← hf] at R
 have hx : (fitQ 2 (ratL [48, 46, 49]) 1).1 = ⟨2, false, ⟨false, 3602879701896397, -55⟩⟩ := by
  generalize (fitQ 2 (ratL [48, 46, 49]) 1).1 = r at *
  obtain ⟨k, g, h, m, e⟩ := r
  simp only at b1 b2 b3 b4 b5
  rw [b1, b2, b3, b4, b5]
 rw [hx] at R
 have hP : outP 2 1 [48, 46, 49] = strR 2 ⟨2, false, ⟨false, 3602879701896397, -55⟩⟩ := by unfold outP; rw [if_pos a1, hx]
 obtain ⟨d1, d2⟩ := l0j hn R
 have he : c0t 2 (strR 2 ⟨2, false, ⟨false, 3602879701896397, -55⟩⟩) = 0 := by
  unfold c0t
  rw [if_pos d1, d2, if_neg (fun h => by have := h.2; rw [show (⟨2, false, ⟨false, 3602879701896397, -55⟩⟩ : Vr).x = ⟨false, 3602879701896397, -55⟩ from rfl, c1] at this; cases this)]
 rw [hP]
 refine ⟨he, ?_⟩
 unfold e0p
 rw [if_pos he, d2, c2]
theorem l0l (w : World) (hT : TabW w) (hP : PowW w) : Calls Tryz.prog 7 #[] w fun en w' => en = .returned (.bool true) ∧ Below w.heap.size w w' := by
 have HA := fun W h => lHd (g0u 2 ⟨#[48, 46, 49]⟩ 1 W h)
 have HS := fun s W h h2 => lHd (v0z 2 s W h h2)
 obtain ⟨a1, a2, _, _⟩ := p0f
 obtain ⟨b1, b2⟩ := h1x
 rw [show a0a ⟨#[48, 46, 49]⟩ = [48, 46, 49] from rfl, a1, a2, show ((1 : Nat) : Int) = 1 from rfl] at HA
 generalize outP 2 1 [48, 46, 49] = S at *
 have HS := HS S
 rw [b1, b2] at HS
 have I := Inv.start w [tabF, powF] ⟨hT, hP, True.intro⟩
 refine a0c [] I Tryz.func7 ?_
 refine zq I (fun Al W I => (HA W I.fa.1).out) fun Al W I => zq I (fun Al W I => (HS W I.fa.1 I.fa.2.1).out) fun Al W I => zbin I 28 _ (fun _ _ _ _ _ => (l0e (s := a0d [49, 101, 45, 49]) (r := ⟨#[49, 101, 45, 49]⟩) (iff_of_true rfl rfl))) fun Al W I => zrb I
end Go.Proofs.YtgbbhlginbmghaaGreatDoor
namespace Go.Slip
open Go.RowKit
end Go.Slip
namespace Go.Proofs.YtgbbhlginbmghaaGreatDoor
open Go.RowKit Go.Slip
structure Wp where
 r : Vr
 p : OA
 c : Nat
def Wp.cells (x : Wp) : List Value := [.int .i64 (x.r.cls : Int), .bool x.r.neg, .bool x.r.x.neg, .slice x.p (dig B16 x.r.x.m).length x.c, .int .i64 x.r.x.e]
theorem Wp.len (x : Wp) : x.cells.length = 5 := rfl
structure TnD (a : Dv) : Prop where
 len : (dig B32 a.m).length ≤ 40
 lo : -38000 ≤ a.e
 hi : a.e ≤ 38000
theorem VrOk.tn {r : Vr} (R : VrOk r) : TnD r.x := ⟨by have := R.len; omega, by have := R.lo; omega, by have := R.hi; omega⟩
theorem TnD.sm {a : Dv} (h : TnD a) : SmD a := ⟨by have := h.len; omega, by have := h.lo; omega, by have := h.hi; omega⟩
theorem y0b {m k : Nat} (h1 : 2 ^ k ≤ m) (h2 : m < 2 ^ (k + 1)) : blen m = k + 1 := by
 have a := (a0w m (k + 1)).2 h2
 have b : ¬ blen m ≤ k := fun h => by have := (a0w m k).1 h; omega
 omega
def oneS : ByteArray := a0d [63, 128, 0, 0]
def twoS : ByteArray := a0d [64, 0, 0, 0]
theorem r1a : a0q (fmt 1) oneS = 1065353216 := by
 unfold a0q oneS
 rw [a0y (by decide)]
 decide +kernel
theorem r1b : a0p 1 oneS = 0 := b0h.2 ⟨by decide, by unfold oneS; rw [a0t]; rfl⟩
theorem r1c : refD 1 oneS = ⟨2, false, ⟨false, 1, 0⟩⟩ := by
 unfold refD
 rw [r1a]
 have hd : (fmt 1).decN 1065353216 = ⟨2, 8388608, -23⟩ := by kernel_rfl
 have hg : (fmt 1).neg 1065353216 = false := by decide +kernel
 unfold Fm.refN Fm.vr
 rw [hd, hg]
 have ht : tz 8388608 = 23 := n0j 1 23 rfl
 have hw : wid (fmt 1).g = 1 := by decide
 unfold Dc.c bare
 simp [ht, hw]
theorem r1d : k0g ⟨false, 1, 0⟩ ⟨false, 1, 0⟩ = ⟨false, 1, 1⟩ := by
 rw [q0d _ _ (e := 0) (by decide) (by decide)]
 have hz : zOf ⟨false, 1, 0⟩ 0 + zOf ⟨false, 1, 0⟩ 0 = 2 := by decide
 rw [hz]
 have ht : tz 2 = 1 := n0j 1 1 rfl
 unfold norm ofZ bare
 simp [ht]
theorem r1e : (fmt 1).addM ⟨2, false, ⟨false, 1, 0⟩⟩ ⟨2, false, ⟨false, 1, 0⟩⟩ 1 = (⟨2, false, ⟨false, 1, 1⟩⟩, 0) := by
 have hK : theK 1 1 1 1 24 = -22 := by
  have h := o0d (m := 1) (by decide) 1 (w := 1) (D := 24) (by decide) (by decide)
  rw [show blen 1 = 1 from y0b (k := 0) (by decide) (by decide)] at h
  exact e1g (by decide) (by decide) (by decide) (by decide) h
 have hR : a0m false 1 1 1 (fmt 1).g 1 = ⟨false, 8388608, -22, true, false, false⟩ := by
  unfold a0m
  rw [if_neg (by decide), show wid (fmt 1).g = 1 from rfl, show (fmt 1).g.digs.toNat = 24 from rfl, hK]
  kernel_rfl
 have ht : tz 8388608 = 23 := n0j 1 23 rfl
 unfold Fm.addM
 rw [if_neg (by decide), if_neg (by decide)]
 unfold Fm.sumM
 rw [r1d, if_pos (by decide)]
 unfold Fm.numM
 rw [if_neg (by decide), hR]
 unfold Fm.placedM Fm.flP bare
 have hw : wid (fmt 1).g = 1 := by decide
 simp [ht, hw]
theorem r1f : strR 1 ⟨2, false, ⟨false, 1, 1⟩⟩ = twoS := by
 have hb : blen 1 = 1 := y0b (k := 0) (by decide) (by decide)
 have h24 : blen 8388608 = 24 := y0b (k := 23) (by decide) (by decide)
 have hs : b0w ⟨false, 1, 1⟩ (fmt 1).g = -22 := by
  unfold b0w upK topD
  simp only [hb]
  decide
 have hf : (fmt 1).fr ⟨false, 1, 1⟩ = 8388608 := by
  unfold Fm.fr
  rw [hs]
  decide
 have hn : (fmt 1).numP ⟨false, 1, 1⟩ = ⟨false, 128, 0⟩ := by
  unfold Fm.numP
  rw [hf, hs, h24]
  kernel_rfl
 have he : (fmt 1).encP 2 false ⟨false, 1, 1⟩ = ⟨false, 128, 0⟩ := hn
 have h2 : (fmt 1).strP ⟨false, 128, 0⟩ = [64, 0, 0, 0] := by decide +kernel
 unfold strR twoS
 simp only
 rw [he, h2]
theorem m1j : errR 1 1 [oneS, oneS] = 0 := by
 unfold errR errL errL errL
 rw [r1b]
 decide
theorem j0i (w : World) (hT : TabW w) : Calls Tryz.prog 8 #[] w fun en w' => en = .returned (.bool true) ∧ Below w.heap.size w w' := by
 have HA : ∀ W, TabW W → Hid (Calls Tryz.prog 11 #[.int .i64 1, .string oneS, .string oneS, .int .i64 1] W fun en w' => en = .returned (.tuple #[.string twoS, .int .i64 0, .int .i64 0]) ∧ Below W.heap.size W w') := by
  intro W h
  have := t0c 1 1 oneS oneS W h
  unfold i0q at this
  rw [m1j, r1c, r1e] at this
  simp only [r1f, if_true] at this
  exact lHd this
 refine calls_of_wp Tryz.func8 rfl ?_
 refine i1p (a' := ⟨(us 26 []).toArray, []⟩) (by kernel_rfl) ?_
 refine yq ?_
 refine ye ?_
 refine ywv 0 rfl 5 (.slice (some ⟨w.heap.size, 0, none⟩) 4 4) #[.int .u8 63, .int .u8 128, .int .u8 0, .int .u8 0] 5 (fun V1 hbV1 hzV1 b5 => ?_)
 refine yv 0 rfl 6 (.string oneS) ?_ (y0n (p := some ⟨w.heap.size, 0, none⟩) (n := 4) (c := 4) (xs := [63, 128, 0, 0]) u0v f1q uStr (g1t b5) rfl (by kernel_rfl))
 refine yzt 1 ?_
 refine ye ?_
 replace hT := (hT.past hbV1)
 refine yc 2 rfl 10 ((HA V1 hT).out) (fun Gx hGx => ?_)
 rintro eV2 V2 ⟨rfl, hbV2⟩
 have hzV2 := hbV2.size
 refine ⟨_, rfl, hGx _ _ ?_⟩
 clear hGx Gx
 refine yzt 7 ?_
 refine ye ?_
 refine ywv 8 rfl 22 (.slice (some ⟨V2.heap.size, 0, none⟩) 4 4) #[.int .u8 64, .int .u8 0, .int .u8 0, .int .u8 0] 5 (fun V3 hbV3 hzV3 b22 => ?_)
 refine yv 0 rfl 23 (.string twoS) ?_ (y0n (p := some ⟨V2.heap.size, 0, none⟩) (n := 4) (c := 4) (xs := [64, 0, 0, 0]) u0v f1q uStr (g1t b22) rfl (by kernel_rfl))
 refine yv 0 rfl 24 (.bool true) ?_ (l1g (s := twoS) (by kernel_rfl) (by kernel_rfl))
 refine yzt 2 ?_
 refine wp_ret ?_
 repeat (first | with_reducible refine a1n ?_ | with_reducible refine w0k ?_)
 refine yret (.bool true) (res1 Tryz.results8 rvt) ?_
 exact ⟨rfl, (r1t (r1t hbV1 hbV2) hbV3)⟩
/-! ### Flags -/
theorem w0a (f : Fm) (p : Pl) (way : Int) : (f.placedM p way).2 ≤ 31 := by
 have h : f.flP p ≤ 31 := by unfold Fm.flP; (repeat' split) <;> omega
 unfold Fm.placedM
 split
 · show 5 ≤ 31; omega
 · split
   · show 3 ≤ 31; omega
   · split <;> exact h
theorem t1v (f : Fm) (x : Dv) (way : Int) : (f.numM x way).2 ≤ 31 := by
 unfold Fm.numM
 split
 · exact Nat.zero_le _
 · exact w0a _ _ _
theorem n1z (f : Fm) (a b : Vr) (way : Int) : (f.addM a b way).2 ≤ 31 := by
 unfold Fm.addM Fm.offM Fm.lostM Fm.sumM
 split
 · show (if f.fam = 3 then 16 else 0) ≤ 31; split <;> omega
 · split
   · split
     · show 16 ≤ 31; omega
     · split <;> exact Nat.zero_le _
   · split
     · exact t1v _ _ _
     · split <;> exact Nat.zero_le _
theorem a1c (n way : Int) (l : List Nat) : flP' n way l ≤ 31 := by
 unfold flP' fitQ
 split
 · split
   · exact Nat.zero_le _
   · exact w0a _ _ _
 · exact Nat.zero_le _
theorem t1w : ∀ a : Fin 32, ∀ b : Fin 32, ∃ c : Fin 32, bits .or .i64 (a.val : Int) (b.val : Int) = (c.val : Int) ∧ ∀ i : Fin 5, b.val / 2 ^ i.val % 2 = 1 → c.val / 2 ^ i.val % 2 = 1 := by decide +kernel
theorem r1g {a b : Nat} (ha : a ≤ 31) (hb : b ≤ 31) : ∃ c : Nat, c ≤ 31 ∧ bits .or .i64 (a : Int) (b : Int) = (c : Int) ∧ ∀ i, i < 5 → b / 2 ^ i % 2 = 1 → c / 2 ^ i % 2 = 1 := by
 obtain ⟨c, h1, h2⟩ := t1w ⟨a, by omega⟩ ⟨b, by omega⟩
 exact ⟨c.val, by omega, h1, fun i hi => h2 ⟨i, hi⟩⟩
theorem h1y (F B : Nat) (hF : F ≤ 31) : IntKind.i64.wrap ((F : Int).tdiv (B : Int)) = ((F / B : Nat) : Int) := by
 rw [← Int.ofNat_tdiv]
 have h := Nat.div_le_self F B
 generalize F / B = q at *
 exact iwo
theorem h1z (X : Nat) : (X : Int).tmod 2 = ((X % 2 : Nat) : Int) := by
 rw [show (2 : Int) = ((2 : Nat) : Int) from rfl, ← Int.ofNat_tmod]
theorem o1a (i : Nat) : ((2 ^ i : Nat) : Int) ≠ 0 := by have := Nat.pow_pos (n := i) (show 0 < 2 by omega); omega
/-! ### The run -/
def j0j (a b : ByteArray) : List OpT := [⟨1, 0, a⟩, ⟨1, 0, b⟩, ⟨3, 0, ByteArray.empty⟩]
def p0g (f way : Int) (a b : ByteArray) : St × Nat × Int := runR f0y ⟨f, way, 0, 0, sV []⟩ [] (j0j a b)
theorem i1a {f way : Int} : chkS f way 0 0 [] = if IsFm f then (if 1 ≤ way ∧ way ≤ 5 then 0 else 6) else 6 := by
 unfold chkS
 by_cases h : IsFm f
 · rw [if_neg (Classical.not_not.2 h), if_pos h]
   by_cases h2 : 1 ≤ way ∧ way ≤ 5
   · rw [if_neg (Classical.not_not.2 h2), if_pos h2]; rfl
   · rw [if_pos h2, if_neg h2]
 · rw [if_pos h, if_neg h]
theorem r1h {f way : Int} {a b : ByteArray} (h : a0j f way (a0a a) ≠ 0 ∨ a0j f way (a0a b) ≠ 0) : (p0g f way a b).2.2 ≠ 0 ∧ (p0g f way a b).2.1 < 2 := by
 unfold p0g runR
 dsimp only
 by_cases hc : chkS f way 0 0 [] = 0
 · rw [if_neg (Classical.not_not.2 hc), if_neg (show ¬ 200 < (j0j a b).length from show ¬ 200 < 3 by decide)]
   unfold j0j
   by_cases ha : a0j f way (a0a a) = 0
   · have hb : a0j f way (a0a b) ≠ 0 := h.resolve_left (Classical.not_not.2 ha)
     have e1 : f0y ⟨f, way, 0, 0, sV []⟩ ⟨1, 0, a⟩ = _ := (if_pos rfl).trans (t0j (g := 0) (vs := sV []) (t := a) ha (show 0 < 16 by decide))
     rw [k0b e1]
     have e2 : f0y ⟨f, way, bits .or .i64 0 ((flP' f way (a0a a) : Nat) : Int), 0, sV [] ++ [.string (outP f way (a0a a))]⟩ ⟨1, 0, b⟩ = _ := (if_pos rfl).trans (z0x (g := bits .or .i64 0 ((flP' f way (a0a a) : Nat) : Int)) (r := 0) (vs := sV [] ++ [.string (outP f way (a0a a))]) (t := b) hb)
     rw [z0y e2 hb]
     exact ⟨hb, by show 0 + 1 < 2; omega⟩
   · have e1 : f0y ⟨f, way, 0, 0, sV []⟩ ⟨1, 0, a⟩ = _ := (if_pos rfl).trans (z0x (g := 0) (r := 0) (vs := sV []) (t := a) ha)
     rw [z0y e1 ha]
     exact ⟨ha, by show 0 < 2; omega⟩
 · rw [if_pos hc]
   exact ⟨hc, by show 0 < 2; omega⟩
theorem m1k {f way : Int} {a b : ByteArray} (ha : a0j f way (a0a a) = 0) (hb : a0j f way (a0a b) = 0) :
 let R := (fmt f).addM (refD f (outP f way (a0a a))) (refD f (outP f way (a0a b))) way
 errR f way [outP f way (a0a a), outP f way (a0a b)] = 0 ∧ a0p f (strR f R.1) = 0 ∧ ∃ G : Nat, G ≤ 31 ∧ (∀ i, i < 5 → R.2 / 2 ^ i % 2 = 1 → G / 2 ^ i % 2 = 1) ∧ p0g f way a b = (⟨f, way, (G : Int), 0, sV [strR f R.1]⟩, 3, 0) ∧ chkS f way (G : Int) 0 [strR f R.1] = 0 := by
 intro R
 obtain ⟨hn, hw, hP⟩ := t0k ha
 obtain ⟨-, -, hQ⟩ := t0k hb
 have hR := z0z hn hw hP hQ
 have hres : ResF (fmt f) R.1 := n1v (b0r hn) (f0d hn) (f0d hn) way
 have hz := (l0j hn hres).1
 obtain ⟨g1, k1, l1, -⟩ := r1g (Nat.zero_le 31) (a1c f way (a0a a))
 obtain ⟨g2, k2, l2, -⟩ := r1g k1 (a1c f way (a0a b))
 obtain ⟨g3, k3, l3, hbit⟩ := r1g k2 (show R.2 ≤ 31 from n1z _ _ _ _)
 refine ⟨hR, hz, g3, k3, hbit, ?_, ?_⟩
 · have e1 : f0y ⟨f, way, 0, 0, sV []⟩ ⟨1, 0, a⟩ = _ := (if_pos rfl).trans (t0j (g := 0) (vs := sV []) (t := a) ha (show 0 < 16 by decide))
   rw [show bits .or .i64 0 ((flP' f way (a0a a) : Nat) : Int) = (g1 : Int) from l1, show sV [] ++ [Value.string (outP f way (a0a a))] = sV [outP f way (a0a a)] from rfl] at e1
   have e2 : f0y ⟨f, way, (g1 : Int), 0, sV [outP f way (a0a a)]⟩ ⟨1, 0, b⟩ = _ := (if_pos rfl).trans (t0j (g := (g1 : Int)) (vs := sV [outP f way (a0a a)]) (t := b) hb (show 1 < 16 by decide))
   rw [l2, show sV [outP f way (a0a a)] ++ [Value.string (outP f way (a0a b))] = sV [outP f way (a0a a), outP f way (a0a b)] from rfl] at e2
   have e3 : f0y ⟨f, way, (g2 : Int), 0, sV [outP f way (a0a a), outP f way (a0a b)]⟩ ⟨3, 0, ByteArray.empty⟩ = _ := ((if_neg (show ¬ (3 : Int) = 1 by decide)).trans ((if_neg (show ¬ (3 : Int) = 11 by decide)).trans (if_pos rfl))).trans (n1y (g := (g2 : Int)) (R := fun x y => (fmt f).addM (refD f x) (refD f y) way) hR)
   rw [l3] at e3
   unfold p0g runR
   dsimp only
   rw [if_neg (Classical.not_not.2 (by rw [i1a, if_pos hn, if_pos hw])), if_neg (show ¬ 200 < (j0j a b).length from show ¬ 200 < 3 by decide)]
   unfold j0j
   rw [k0b e1, k0b e2, k0b e3]
   rfl
 · have hs : (strR f R.1).size = (fmt f).size := by
    unfold a0p at hz
    rw [if_pos hn] at hz
    split at hz
    · assumption
    · cases hz
   unfold chkS
   rw [if_neg (Classical.not_not.2 hn), if_neg (Classical.not_not.2 hw), if_neg (Classical.not_not.2 ⟨by omega, by omega, by omega, by omega⟩), if_neg (show ¬ 16 < [strR f R.1].length from show ¬ 16 < 1 by decide), if_neg]
   intro h
   obtain ⟨s, h1, h2⟩ := List.any_eq_true.1 h
   rw [List.mem_singleton] at h1
   subst h1
   exact bne_iff_ne.1 h2 (by rw [hs])
theorem q0x (f way : Int) (a b : ByteArray) (pl : OA) (cl : Nat) (w : World) (hr : RdV w pl (e0h (j0j a b))) (hT : TabW w) : Calls Tryz.prog 9 #[.agg #[.int .i64 f, .int .i64 way, .int .i64 0, .int .i64 0, .slice none 0 0], .slice pl 3 cl] w (m1b w (p0g f way a b)) :=
 z0w f way 0 0 [] (j0j a b) none pl 0 cl w (RdV.nil _ _) hr (Nat.zero_le _) (show 3 ≤ 9223372036854775807 by decide) hT fun o ho => by
  unfold j0j at ho
  simp only [List.mem_cons, List.not_mem_nil, or_false] at ho
  rcases ho with rfl | rfl | rfl
  · exact .inl rfl
  · exact .inl rfl
  · exact .inr (.inr (.inl rfl))
theorem j0k (f way k : Int) (a b : ByteArray) (w : World) (hT : TabW w) (hP : PowW w) (hbad : a0j f way (a0a a) ≠ 0 ∨ a0j f way (a0a b) ≠ 0) : Calls Tryz.prog 3 #[.int .i64 f, .int .i64 way, .string a, .string b, .int .i64 k] w
 fun en w' => en = .returned (.bool true) ∧ Below w.heap.size w w' := by
 have HM := fun W h => lHd (h0l W h)
 have HX := fun W h h2 => lHd (l0l W h h2)
 have HA := fun W h => lHd (j0i W h)
 have HR := fun pl cl W h h2 => lHd (q0x f way a b pl cl W h h2)
 have HP := fun t W h => lHd (g0u f t way W h)
 have hR := r1h hbad
 generalize p0g f way a b = R at *
 obtain ⟨s, n, e⟩ := R
 generalize a0j f way (a0a a) = ea at *
 generalize a0j f way (a0a b) = eb at *
 dsimp only at hR
 have I := Inv.start w [tabF, powF] ⟨hT, hP, True.intro⟩
 refine a0c [.v (.int .i64 f), .v (.int .i64 way), .v (.string a), .v (.string b), .v (.int .i64 k)] I Tryz.func3 ?_
 refine zq I (fun Al W I => (HM W I.fa.1).out) fun Al W I => zq I (fun Al W I => (HX W I.fa.1 I.fa.2.1).out) fun Al W I => zq I (fun Al W I => (HA W I.fa.1).out) fun Al W I => zg I (fun Al W I => (HR (some ⟨(lk 0 Al 0), 0, none⟩) 3 W (u0j (vs := e0h (j0j a b)) (I.box 0 30 _)) I.fa.1).out) fun Al V Iv _ hB _ kz => ?_
 rintro _ W ⟨p46, c46, rfl, o46, hb⟩
 refine ⟨_, rfl, kz _ _ hb fun I => ?_⟩
 have I := I.ownv o46
 refine zq I (fun Al W I => (HP a W I.fa.2.1).out) fun Al W I => zq I (fun Al W I => (HP b W I.fa.2.1).out) fun Al W I => ?_
 rcases bTF (ea != 0) with h67 | h67
 · refine zb I 67 (ea != 0) (true) (h67) fun Al W I => zb I 73 (e != 0) (true) ((bne_iff_ne.2 hR.1)) fun Al W I => zb I 76 (decide ((n : Int) < 2)) (true) (dTr (by have := hR.2; omega)) fun Al W I => zrb I
 refine zb I 67 (ea != 0) (false) (h67) fun Al W I => zb I 70 (eb != 0) (true) ((bne_iff_ne.2 (hbad.resolve_left (Classical.not_not.2 (bne_eq_false_iff_eq.1 h67))))) fun Al W I => zb I 73 (e != 0) (true) ((bne_iff_ne.2 hR.1)) fun Al W I => zb I 76 (decide ((n : Int) < 2)) (true) (dTr (by have := hR.2; omega)) fun Al W I => zrb I
theorem p0h (f way k : Int) (a b : ByteArray) (w : World) (hT : TabW w) (hP : PowW w) (ha : a0j f way (a0a a) = 0) (hb0 : a0j f way (a0a b) = 0) : Calls Tryz.prog 3 #[.int .i64 f, .int .i64 way, .string a, .string b, .int .i64 k] w
 fun en w' => en = .returned (.bool true) ∧ Below w.heap.size w w' := by
 have HM := fun W h => lHd (h0l W h)
 have HX := fun W h h2 => lHd (l0l W h h2)
 have HA := fun W h => lHd (j0i W h)
 have HR := fun pl cl W h h2 => lHd (q0x f way a b pl cl W h h2)
 have HP1 := fun W h => lHd (g0u f a way W h)
 have HP2 := fun W h => lHd (g0u f b way W h)
 obtain ⟨hE, hz, G, hG, hbit, hrun, hchk⟩ := m1k ha hb0
 rw [hrun] at HR
 rw [ha] at HP1
 rw [hb0] at HP2
 have hF := n1z (fmt f) (refD f (outP f way (a0a a))) (refD f (outP f way (a0a b))) way
 have HD := fun W h => lHd ((t0c f way (outP f way (a0a a)) (outP f way (a0a b)) W h).mono (R' := fun en w' => en = .returned (.tuple #[.string (strR f ((fmt f).addM (refD f (outP f way (a0a a))) (refD f (outP f way (a0a b))) way).1), .int .i64 ((((fmt f).addM (refD f (outP f way (a0a a))) (refD f (outP f way (a0a b))) way).2 : Nat) : Int), .int .i64 0]) ∧ Below W.heap.size W w') fun _ _ h => ⟨by have h1 := h.1; rw [if_pos hE, hE] at h1; exact h1, h.2⟩)
 clear hrun ha hb0 hE
 generalize strR f ((fmt f).addM (refD f (outP f way (a0a a))) (refD f (outP f way (a0a b))) way).1 = z at *
 generalize ((fmt f).addM (refD f (outP f way (a0a a))) (refD f (outP f way (a0a b))) way).2 = F at *
 generalize outP f way (a0a a) = X at *
 generalize outP f way (a0a b) = Y at *
 generalize flP' f way (a0a a) = fa at *
 generalize flP' f way (a0a b) = fb at *
 have HS := fun p c W h h2 h3 => lHd (m1d f way (G : Int) 0 k [z] p c W h (show 1 ≤ 9223372036854775807 by decide) h2 h3)
 have HPr := fun W h h2 => lHd (v0t f k z W h h2)
 have hse : i0z f way (G : Int) 0 k [z] = b0x f k z := by unfold i0z b0x; rw [if_neg (Classical.not_not.2 hchk), if_pos hz]
 have hsl : i0z f way (G : Int) 0 k [z] = 0 → m0s f way (G : Int) 0 k [z] = [b0s f k z] := fun h => by unfold m0s; rw [if_pos h]; rfl
 generalize i0z f way (G : Int) 0 k [z] = se at *
 generalize m0s f way (G : Int) 0 k [z] = sl at *
 subst hse
 generalize b0s f k z = t at *
 generalize b0x f k z = ep at *
 have I := Inv.start w [tabF, powF] ⟨hT, hP, True.intro⟩
 refine a0c [.v (.int .i64 f), .v (.int .i64 way), .v (.string a), .v (.string b), .v (.int .i64 k)] I Tryz.func3 ?_
 refine zq I (fun Al W I => (HM W I.fa.1).out) fun Al W I => zq I (fun Al W I => (HX W I.fa.1 I.fa.2.1).out) fun Al W I => zq I (fun Al W I => (HA W I.fa.1).out) fun Al W I => zg I (fun Al W I => (HR (some ⟨(lk 0 Al 0), 0, none⟩) 3 W (u0j (vs := e0h (j0j a b)) (I.box 0 30 _)) I.fa.1).out) fun Al V Iv _ hB _ kz => ?_
 rintro _ W ⟨p46, c46, rfl, o46, hb⟩
 refine ⟨_, rfl, kz _ _ hb fun I => ?_⟩
 have I := I.ownv o46
 refine zq I (fun Al W I => (HP1 W I.fa.2.1).out) fun Al W I => zq I (fun Al W I => (HP2 W I.fa.2.1).out) fun Al W I => zq I (fun Al W I => (HD W I.fa.2.1).out) fun Al W I => ?_
 have hso : h0m p46 1 := RdV.solid (OwnV.rd I.fa.1)
 refine zx I 106 (fun _ => .pointer (some (at_ p46 0))) (fun Al W I => (d0x (m := 0) (n := 1) (c := c46) i0y hso (by omega))) fun Al W I => zx I 107 (fun _ => .string z) (fun Al W I => (b0i (m := 0) (OwnV.rd I.fa.1) c0n rfl)) fun Al W I => zbin I 109 _ (fun _ _ _ _ _ => o1u z) fun Al W I => h0u I (fun gk fr bx gs => ∃ (U900 : Nat → Value) (i : Nat), fr = (.v (vI f) :: .v (vI way) :: .v (.string a) :: .v (.string b) :: .v (vI k) :: su 5 (.v (U900 10) :: .p 1 0 :: .v (vI 3) :: .v (vI 0) :: .v (.string X) :: .v (U900 15) :: .v (vI 0) :: .v (.string Y) :: .v (U900 18) :: .v (vI 0) :: .v (.string z) :: .v (vI (F : Int)) :: .v (vI 0) :: .v (vI ((2 ^ i : Nat) : Int)) :: su 2 (sw U900 26 9 (.v (.bool false) :: sw U900 36 35 (.v (.bool false) :: sw U900 72 38 (.v (.bool false) :: sw U900 111 49 []))))) : List SV) ∧ bx = [⟨30, [.v (vI 1), .v (vI 0), .v (.string a), .v (vI 1), .v (vI 0), .v (.string b), .v (vI 3), .v (vI 0), .v (.string ByteArray.empty)], false⟩, ⟨25, [.v (vI f), .v (vI way), .v (vI (G : Int)), .v (vI 0), .v (.slice p46 1 c46)], false⟩] ∧ gs = [b0z w.heap.size 9 p46 c46 (sV [z]), tabF, powF] ∧ (gk + i = 5)) 5 (fun Al W U I => ⟨_, ⟨U, 0, rfl, rfl, rfl, (by omega)⟩, I.pick [0, 1, 2]⟩) ?_
 rintro J0 gk0 _ _ _ ⟨U900, i, rfl, rfl, rfl, hgk⟩ hJ0 Al W I
 rcases bTF (decide (((2 ^ i : Nat) : Int) < 32)) with f112 | f112
 · refine zb I 112 (decide (((2 ^ i : Nat) : Int) < 32)) (true) (f112) fun Al W I => ?_
   have hpw : i = 0 ∨ i = 1 ∨ i = 2 ∨ i = 3 ∨ i = 4 ∨ i = 5 := by omega
   have hi : i < 5 := by rcases hpw with rfl | rfl | rfl | rfl | rfl | rfl <;> first | omega | (exact absurd (oTr f112) (by decide))
   refine zbin I 117 _ (fun _ _ _ _ _ => n0z .i64 (F : Int) ((2 ^ i : Nat) : Int) (((F / 2 ^ i : Nat) : Int)) (o1a i) (h1y F (2 ^ i) hF)) fun Al W I => zbin I 118 _ (fun _ _ _ _ _ => e1c .i64 (((F / 2 ^ i : Nat) : Int)) (2) (((F / 2 ^ i % 2 : Nat) : Int)) (by omega) (h1z (F / 2 ^ i))) fun Al W I => ?_
   rcases bTF (((F / 2 ^ i % 2 : Nat) : Int) == 1) with f119 | f119
   · refine zb I 119 (((F / 2 ^ i % 2 : Nat) : Int) == 1) (true) (f119) fun Al W I => zbin I 124 _ (fun _ _ _ _ _ => n0z .i64 (G : Int) ((2 ^ i : Nat) : Int) (((G / 2 ^ i : Nat) : Int)) (o1a i) (h1y G (2 ^ i) hG)) fun Al W I => zbin I 125 _ (fun _ _ _ _ _ => e1c .i64 (((G / 2 ^ i : Nat) : Int)) (2) (((G / 2 ^ i % 2 : Nat) : Int)) (by omega) (h1z (G / 2 ^ i))) fun Al W I => zb I 126 (((G / 2 ^ i % 2 : Nat) : Int) == 0) (false) (bFn (by have := hbit i hi (by have := beq_iff_eq.1 f119; omega); omega)) fun Al W I => zi I 114 .i64 ((2 : Int) * ((2 ^ i : Nat) : Int)) (((2 ^ (i + 1) : Nat) : Int)) ((by rw [Nat.pow_succ]; rcases hpw with rfl | rfl | rfl | rfl | rfl | rfl <;> decide)) fun Al W I => a0i I J0 fun Al W U I => hJ0 (gk0 - 1) _ _ _ _ _ ((by omega)) ⟨U, i + 1, rfl, rfl, rfl, (by omega)⟩ (I.pick [0, 1, 2])
   refine zb I 119 (((F / 2 ^ i % 2 : Nat) : Int) == 1) (false) (f119) fun Al W I => zi I 114 .i64 ((2 : Int) * ((2 ^ i : Nat) : Int)) (((2 ^ (i + 1) : Nat) : Int)) ((by rw [Nat.pow_succ]; rcases hpw with rfl | rfl | rfl | rfl | rfl | rfl <;> decide)) fun Al W I => a0i I J0 fun Al W U I => hJ0 (gk0 - 1) _ _ _ _ _ ((by omega)) ⟨U, i + 1, rfl, rfl, rfl, (by omega)⟩ (I.pick [0, 1, 2])
 refine zb I 112 (decide (((2 ^ i : Nat) : Int) < 32)) (false) (f112) fun Al W I => zg I (fun Al W I => (HS p46 c46 W (OwnV.rd I.fa.1) I.fa.2.1 I.fa.2.2.1).out) fun Al V Iv _ hB _ kz => ?_
 rintro _ W ⟨q131, d131, rfl, o131, hb⟩
 refine ⟨_, rfl, kz _ _ hb fun I => ?_⟩
 have I := I.ownv o131
 refine zq I (fun Al W I => (HPr W I.fa.2.2.1 I.fa.2.2.2.1).out) fun Al W I => ?_
 have hsl1 : ep = 0 → sV sl = sV [t] := fun h => by rw [hsl h]
 refine zb I 143 (ep == ep) (true) (beq_self_eq_true ep) fun Al W I => ?_
 rcases bTF (ep != 0) with f146 | f146
 · refine zb I 146 (ep != 0) (true) (f146) fun Al W I => zrb I
 refine zb I 146 (ep != 0) (false) (f146) fun Al W I => zb I 150 ((((sV sl).length : Nat) : Int) == 1) (true) ((by rw [beq_iff_eq, hsl1 (bne_eq_false_iff_eq.1 f146)]; rfl)) fun Al W I => zx I 153 (fun _ => .pointer (some (at_ q131 0))) (fun Al W I => (d0x (m := 0) (n := (sV sl).length) (c := d131) i0y (RdV.solid (OwnV.rd I.fa.1)) (by rw [hsl1 (bne_eq_false_iff_eq.1 f146)]; show 0 < 1; decide))) fun Al W I => zx I 154 (fun _ => .string t) (fun Al W I => (b0i (m := 0) (OwnV.rd I.fa.1) c0n (by rw [hsl1 (bne_eq_false_iff_eq.1 f146)]; rfl))) fun Al W I => zbin I 156 _ (fun _ _ _ _ _ => (l0e (s := t) (r := t) (iff_of_true rfl rfl))) fun Al W I => zrb I
theorem p0o (f way : Int) (a b : ByteArray) (k : Int) (w : World) (hT : TabW w) (hP : PowW w) : Calls Tryz.prog 3 #[.int .i64 f, .int .i64 way, .string a, .string b, .int .i64 k] w
 fun en w' => en = .returned (.bool true) ∧ Below w.heap.size w w' := by
 by_cases ha : a0j f way (a0a a) = 0
 · by_cases hb : a0j f way (a0a b) = 0
   · exact p0h f way k a b w hT hP ha hb
   · exact j0k f way k a b w hT hP (.inr hb)
 · exact j0k f way k a b w hT hP (.inl ha)
end Go.Proofs.YtgbbhlginbmghaaGreatDoor
