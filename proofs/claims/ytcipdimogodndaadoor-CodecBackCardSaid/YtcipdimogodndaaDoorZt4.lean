/- codec: join: a pattern out of its parts.
   How a value becomes a pattern, said in numbers. No program is in sight here.
   grid: within, width, floor, Check.
   grid: scaled.
   A map from int that a call makes, known whole: 'insert' of a new key, and a look-up. No program is in sight here.
   grid: the map of ways.
   grid: the ways to round.
   grid: Fit.
   grid: Round.
   dyad.Whole, Opposite; grid.Number.
   grid: ratio, Keeps, check, Holds.
   grid: After.
   Noughts behind a list of digits to the base of 65536. Plain arithmetic. No program is in sight here.
   references: StepOf.
   codec: width, raw, number. -/
import Derived.Maps.Own
import Derived.Outline
import Derived.Deep.LoopGhost
import Derived.Deep.RegionHeld3
import Derived.Deep.DeepCutAuto
import Derived.Lib.Strings
import Derived.Lib.Slices
import Derived.Lib.Small
import Derived.Lib.Walk
import Derived.Lib.BitFns
import Derived.Test.YtcipdimogodndaaDoorZt1
import Derived.Test.YtcipdimogodndaaDoorZt2
import Derived.Test.YtcipdimogodndaaDoorZt3
namespace Go.Slip
def LL (bs : List Nat) (i : Nat) : List Nat := bs.take i ++ List.replicate (bs.length - i) 0
theorem LL_len (bs : List Nat) (i : Nat) : (LL bs i).length = bs.length := by unfold LL; rw [List.length_append, List.length_take, List.length_replicate]; omega
theorem LL_zero (bs : List Nat) : LL bs 0 = List.replicate bs.length 0 := by unfold LL; rw [List.take_zero]; rfl
theorem LL_all (bs : List Nat) : LL bs bs.length = bs := by unfold LL; rw [List.take_length, Nat.sub_self]; simp
theorem dg_LL (bs : List Nat) (i j : Nat) : dg (LL bs i) j = if j < i then dg bs j else 0 := by
  unfold LL
  by_cases h : j < (bs.take i).length
  · rw [dg_append_lt h]
    have h2 : j < i := by rw [List.length_take] at h; omega
    rw [dg_take h2, if_pos h2]
  · rw [dg_append_ge (by omega), dg_replicate]
    split
    · rw [dg_of_ge]
      rw [List.length_take] at h
      omega
    · rfl
theorem LL_set (bs : List Nat) {i : Nat} (h : i < bs.length) : (LL bs i).set i (dg bs i) = LL bs (i + 1) := by
  refine ext_dg (by rw [List.length_set, LL_len, LL_len]) fun j hj => ?_
  rw [List.length_set, LL_len] at hj
  by_cases e : i = j
  · subst e
    rw [dg_set_same (by rw [LL_len]; exact h), dg_LL, if_pos (by omega)]
  · rw [dg_set_ne e, dg_LL, dg_LL]
    by_cases k : j < i
    · rw [if_pos k, if_pos (by omega)]
    · rw [if_neg k, if_neg (by omega)]
theorem LL_same (bs : List Nat) {i : Nat} (h0 : dg bs i = 0) : LL bs i = LL bs (i + 1) := by
  refine ext_dg (by rw [LL_len, LL_len]) fun j _ => ?_
  rw [dg_LL, dg_LL]
  by_cases e : j = i
  · subst e
    rw [if_neg (by omega), if_pos (by omega), h0]
  · by_cases k : j < i
    · rw [if_pos k, if_pos (by omega)]
    · rw [if_neg k, if_neg (by omega)]
theorem u8_wrap (n : Nat) : IntKind.u8.wrap (n : Int) = ((n % 256 : Nat) : Int) := by
  simp [IntKind.wrap, IntKind.signed, IntKind.bits]
theorem dg_dig0 (n : Nat) : dg (dig B32 n) 0 = n % 4294967296 := by
  rcases Nat.eq_zero_or_pos n with h | h
  · subst h; rw [dig_zero]; rfl
  · rw [dig_pos B32_two h]; rfl
section
open Go.RowKit
variable {P : Program} {ops : Array Oper} {Q : Exit → Act → World → Prop} {a : Act} {w : World} {rest : List Oper} {o : Oper}
theorem smkn (d : Nat) {x y : Operand} {t : TypeId} {e : TypeId} {k : IntKind} {bytes : Nat} (hty : SlTyV P t e (.int k 0) bytes) (n : Nat) (hb : n ≤ 4000000000)
    (h : ∀ p' c' w', Own w' w.heap.size k e p' c' (List.replicate n 0) → Below w.heap.size w w' → WpL P ops Q rest (a.put (some d) (.slice p' n c')) w')
    (hx : a.eval x = .int .i64 (n : Int) := by kernel_rfl) (hy : a.eval y = .int .i64 (n : Int) := by kernel_rfl)
    (ho : o.op = .makeSlice t x y := by rfl) (hd : o.dst = some d := by kernel_rfl)
    (hw : Region.wanted o (yielded ops a.tmps) = true := by kernel_rfl) : WpL P ops Q (o :: rest) a w :=
  wpList_of (opw_mk (some d) hd x y t ho hty .i64 .i64 n hx hy hb hw fun p' c' w' h1 h2 => h p' c' w' (own_of_v (by rw [List.map_replicate]; exact h1)) h2)
end
end Go.Slip
namespace Go.Proofs.YtcipdimogodndaaDoor
open Go.RowKit Go.Slip

set_option maxHeartbeats 1000000 in
set_option maxRecDepth 100000 in
theorem join_any (f : Fm) (g : Bool) (e x : Nat) (p : Option Addr) (c : Nat) (w : World) (G : GoodF f) (hp : Rd w .u32 p (dig B32 x)) (he : e < 2 ^ f.E) (hx : x < 2 ^ f.F) :
    Calls Tryd.prog 75 #[.agg #[.int .i64 ((f.size : Nat) : Int), .int .i64 ((f.E : Nat) : Int), .int .i64 ((f.F : Nat) : Int), .int .i64 f.g.rad, .int .i64 f.g.digs, .int .i64 f.g.lo, .int .i64 f.g.hi, .bool f.g.grad, .bool f.hid, .bool f.inf, .bool f.res, .func (.func (ordF f)) #[] #[]], .agg #[.bool g, .int .i64 ((e : Nat) : Int), .slice p (dig B32 x).length c]] w fun en w' => en = .returned (.string (strOf (f.str g e x))) ∧ Below w.heap.size w w' := by
  have z1 := G.sz
  have z2 := G.e2
  have z3 := G.f2
  have z4 := G.bits
  have hlt := pat_lt G (neg := g) he hx
  have hxl := dig_le_pow hx (k := 2) (by omega)
  have hT : g.toNat * 2 ^ f.E + e < 2 ^ 16 := by
    have h1 : 2 ^ f.E ≤ 2 ^ 15 := Nat.pow_le_pow_right (by omega) (by omega)
    cases g <;> simp <;> omega
  have hpw : 2 ^ f.E ≤ 2 ^ 15 := Nat.pow_le_pow_right (by omega) (by omega)
  have hsh := shl_one (E := f.E) (by omega)
  have hor := i64_or_top (x := e) (E := f.E) he (by omega)
  have h80 : f.pat g e x < 2 ^ 80 := Nat.lt_of_lt_of_le hlt (Nat.pow_le_pow_right (by omega) (by omega))
  unfold Fm.str
  have hpe : f.pat g e x = (g.toNat * 2 ^ f.E + e) * 2 ^ f.F + x := rfl
  have hord := fun (W : World) (base : Nat) (p : Option Addr) (c : Nat) (xs : List Nat) h1 h2 h3 => ord_any f base p f.size c xs W G h1 h2.symm h2 h3
  generalize hNN : f.pat g e x = NN at *
  have hbl : (bytesN NN f.size).length = f.size := bytesN_len _ _
  have hdg := fun i h => dg_bytesN f.size NN i h
  have hbs := fun i h => LL_set (bytesN NN f.size) (i := i) h
  have hbz := fun i h => LL_same (bytesN NN f.size) (i := i) h
  have hball := LL_all (bytesN NN f.size)
  have hb0 := LL_zero (bytesN NN f.size)
  have hLl := LL_len (bytesN NN f.size)
  rw [hbl] at hball hb0
  generalize bytesN NN f.size = bs at *
  generalize h2E : 2 ^ f.E = P at *
  have hNl := dig_le_pow h80 (k := 3) (by omega)
  have hTl : (dig B32 ((g.toNat * P + e) * 2 ^ f.F)).length ≤ 3 := dig_le_pow (n := 80) (by omega) (by omega)
  have hQl : ∀ N, (dig B32 (NN / 2 ^ N)).length ≤ 3 := fun N => dig_le_pow (n := 80) (Nat.lt_of_le_of_lt (Nat.div_le_self _ _) h80) (by omega)
  have HSH := Lib.hid hsh
  have HOR := Lib.hid hor
  have HPE := Lib.hid hpe
  have HB0 := Lib.hid hb0
  clear hsh hor hpe hb0 hlt h80 hNN h2E
  have hT3 : SxOne Tryd.prog 3 := sxOne_of (by kernel_rfl) (by kernel_rfl)
  have hT4 : SxOne Tryd.prog 4 := sxOne_of (by kernel_rfl) (by kernel_rfl)
  have hT23 : SxOne Tryd.prog 23 := sxOne_of (by kernel_rfl) (by kernel_rfl)
  have hT114 : SxOne Tryd.prog 114 := sxOne_of (by kernel_rfl) (by kernel_rfl)
  refine calls_of_wp Tryd.func75 rfl ?_
  refine sx_frame (a' := ⟨((.agg #[.int .i64 ((f.size : Nat) : Int), .int .i64 ((f.E : Nat) : Int), .int .i64 ((f.F : Nat) : Int), .int .i64 f.g.rad, .int .i64 f.g.digs, .int .i64 f.g.lo, .int .i64 f.g.hi, .bool f.g.grad, .bool f.hid, .bool f.inf, .bool f.res, .func (.func (ordF f)) #[] #[]]) :: (.agg #[.bool g, .int .i64 ((e : Nat) : Int), .slice p (dig B32 x).length c]) :: us 58 []).toArray, []⟩) (by kernel_rfl) ?_
  refine ye ?_
  refine yw 0 rfl 2 #[.int .i64 ((f.size : Nat) : Int), .int .i64 ((f.E : Nat) : Int), .int .i64 ((f.F : Nat) : Int), .int .i64 f.g.rad, .int .i64 f.g.digs, .int .i64 f.g.lo, .int .i64 f.g.hi, .bool f.g.grad, .bool f.hid, .bool f.inf, .bool f.res, .func (.func (ordF f)) #[] #[]] 116 (fun V1 hbV1 hzV1 b2 => ?_)
  refine yw 0 rfl 3 #[.bool g, .int .i64 ((e : Nat) : Int), .slice p (dig B32 x).length c] 137 (fun V2 hbV2 hzV2 b3 => ?_)
  refine yzt 1 ?_
  refine ye ?_
  refine yl 1 rfl 11 b3 hT3 1 ?_
  refine yzt 1 ?_
  refine wp_seq ?_
  refine ye ?_
  rcases Bool.eq_false_or_eq_true (g) with f13 | f13
  · skip
    refine ylb 1 rfl 13 b3 hT4 0 (g) true (f13) ?_
    refine yzt 0 ?_
    refine yT ?_
    refine sx_region ?_
    have b2_w2 := b2.past hbV2
    refine yl 2 rfl 16 b2_w2 hT3 1 ?_
    refine yv 0 rfl 17 (.int .i64 ((P : Nat) : Int)) ?_ (exec_shl (X := (1)) (Y := ((f.E : Nat) : Int)) (k2 := .i64) ((P : Nat) : Int) (by kernel_rfl) (by kernel_rfl) (by omega) ((HSH.out)))
    refine yv 0 rfl 18 (.int .i64 ((P + e : Nat) : Int)) ?_ (exec_or (X := ((e : Nat) : Int)) (Y := (((P : Nat) : Int))) ((P + e : Nat) : Int) (by kernel_rfl) (by kernel_rfl) ((HOR.out)))
    refine yz 1 ?_
    refine sx_then ?_
    refine wp_seq ?_
    obtain ⟨V3, hVV3, hbV3, hzV3⟩ := drew_of V2
    have b2_w3 := b2.past (bthru hbV2 hbV3)
    replace b3 := (b3.past hbV3)
    refine yd2 hVV3 ⟨b2_w3, b3⟩ ?_
    clear hVV3
    refine yt 7 [0, 2] rfl ⟨b2_w3, b3⟩ ?_
    refine ytl 3 rfl 22 (fun _ h => h.1) hT3 2 ⟨b2_w3, b3⟩ ?_
    refine yt 5 [5] rfl ⟨b2_w3, b3⟩ ?_
    refine ytl 6 rfl 25 (fun _ h => h.2) hT23 2 ⟨b2_w3, b3⟩ ?_
    refine sxr [1] ?_
    refine rd1 (fun Kx hKx => ?_)
    refine yck 20 (sof ((P + e : Nat) : Int) (g.toNat * P + e) (by rw [f13, Bool.toNat_true, Nat.one_mul]) (by omega) V3) ?_
    rintro eV4 V4 ⟨p20, c20, rfl, o20, hbV4⟩
    have hzV4 := hbV4.size
    refine ⟨_, rfl, ?_⟩
    have b2_w4 := b2.past (bthru (bthru hbV2 hbV3) hbV4)
    replace b3 := (b3.past hbV4)
    refine hKx.out _ _ ⟨b2_w4, b3⟩ ?_
    clear hKx Kx
    refine sxr [4] ?_
    refine rd1 (fun Kx hKx => ?_)
    refine yck 23 (sshl p20 _ c20 (g.toNat * P + e) f.F ((g.toNat * P + e) * 2 ^ f.F) _ V4 o20.rd rfl (by have := dig_le_pow hT (k := 1) (by omega); omega) (by omega) rfl rfl) ?_
    rintro eV5 V5 ⟨p23, c23, rfl, o23, hbV5⟩
    have hzV5 := hbV5.size
    refine ⟨_, rfl, ?_⟩
    have b2_w5 := b2.past (bthru (bthru (bthru hbV2 hbV3) hbV4) hbV5)
    replace b3 := (b3.past hbV5)
    refine hKx.out _ _ ⟨b2_w5, b3⟩ ?_
    clear hKx Kx
    refine sxr [7] ?_
    refine rd1 (fun Kx hKx => ?_)
    replace hp := (hp.past (bthru (bthru (bthru (bthru hbV1 hbV2) hbV3) hbV4) hbV5))
    refine yck 26 (sadd p23 p _ _ c23 c ((g.toNat * P + e) * 2 ^ f.F) x NN V5 o23.rd hp rfl rfl (by omega) (by omega) HPE.out.symm) ?_
    rintro eV6 V6 ⟨p26, c26, rfl, o26, hbV6⟩
    have hzV6 := hbV6.size
    refine ⟨_, rfl, ?_⟩
    have b2_w6 := b2.past (bthru (bthru (bthru (bthru hbV2 hbV3) hbV4) hbV5) hbV6)
    replace b3 := (b3.past hbV6)
    refine hKx.out _ _ ⟨b2_w6, b3⟩ ?_
    clear hKx Kx
    refine yt 0 [8] rfl ⟨b2_w6, b3⟩ ?_
    refine sx_done (by kernel_rfl) ?_
    refine sx_then ?_
    refine ye ?_
    refine yl 1 rfl 28 b2_w6 hT3 0 ?_
    refine smkn 29 tvBytes f.size (by omega) (fun p29 c29 V7 b29 hjV7 => ?_)
    have hbV7 : Below V6.heap.size V6 V7 := (Below.refl _ _).trans (hjV7.mono (by omega))
    have hzV7 := hbV7.size
    refine yzt 1 ?_
    refine wp_seq ?_
    refine yq ?_
    refine wp_block ?_
    refine sx_frame (a' := ⟨((.agg #[.int .i64 ((f.size : Nat) : Int), .int .i64 ((f.E : Nat) : Int), .int .i64 ((f.F : Nat) : Int), .int .i64 f.g.rad, .int .i64 f.g.digs, .int .i64 f.g.lo, .int .i64 f.g.hi, .bool f.g.grad, .bool f.hid, .bool f.inf, .bool f.res, .func (.func (ordF f)) #[] #[]]) :: (.agg #[.bool g, .int .i64 ((e : Nat) : Int), .slice p (dig B32 x).length c]) :: (.pointer (some ⟨w.heap.size, 0, none⟩)) :: (.pointer (some ⟨V1.heap.size, 0, none⟩)) :: (Go.Value.string (ByteArray.mk #[])) :: (.int .i64 ((P + e : Nat) : Int)) :: (.slice p26 (dig B32 NN).length c26) :: (.slice p29 f.size c29) :: us 2 ((.pointer (some ⟨V1.heap.size, 1, none⟩)) :: (.int .i64 ((e : Nat) : Int)) :: (.pointer (some ⟨V1.heap.size, 0, none⟩)) :: (.bool true) :: (.int .i64 ((e : Nat) : Int)) :: (.pointer (some ⟨w.heap.size, 1, none⟩)) :: (.int .i64 ((f.E : Nat) : Int)) :: (.int .i64 ((P : Nat) : Int)) :: (.int .i64 ((P + e : Nat) : Int)) :: (.int .i64 ((P + e : Nat) : Int)) :: (.slice p20 (dig B32 (g.toNat * P + e)).length c20) :: (.pointer (some ⟨w.heap.size, 2, none⟩)) :: (.int .i64 ((f.F : Nat) : Int)) :: (.slice p23 (dig B32 ((g.toNat * P + e) * 2 ^ f.F)).length c23) :: (.pointer (some ⟨V1.heap.size, 2, none⟩)) :: (.slice p (dig B32 x).length c) :: (.slice p26 (dig B32 NN).length c26) :: (.pointer (some ⟨w.heap.size, 0, none⟩)) :: (.int .i64 ((f.size : Nat) : Int)) :: (.slice p29 f.size c29) :: (.slice p29 f.size c29) :: (.int .i64 ((f.size : Nat) : Int)) :: (.int .i64 0) :: us 27 [])).toArray, []⟩) (by kernel_rfl) ?_
    refine sx_loop2 (fun (gk : Nat) U0 a' w' => ∃ (i : Nat), a' = ⟨((.agg #[.int .i64 ((f.size : Nat) : Int), .int .i64 ((f.E : Nat) : Int), .int .i64 ((f.F : Nat) : Int), .int .i64 f.g.rad, .int .i64 f.g.digs, .int .i64 f.g.lo, .int .i64 f.g.hi, .bool f.g.grad, .bool f.hid, .bool f.inf, .bool f.res, .func (.func (ordF f)) #[] #[]]) :: (.agg #[.bool g, .int .i64 ((e : Nat) : Int), .slice p (dig B32 x).length c]) :: (.pointer (some ⟨w.heap.size, 0, none⟩)) :: (.pointer (some ⟨V1.heap.size, 0, none⟩)) :: (Go.Value.string (ByteArray.mk #[])) :: (.int .i64 ((P + e : Nat) : Int)) :: (.slice p26 (dig B32 NN).length c26) :: (.slice p29 f.size c29) :: uvs U0 8 2 ((.pointer (some ⟨V1.heap.size, 1, none⟩)) :: (.int .i64 ((e : Nat) : Int)) :: (.pointer (some ⟨V1.heap.size, 0, none⟩)) :: (.bool true) :: (.int .i64 ((e : Nat) : Int)) :: (.pointer (some ⟨w.heap.size, 1, none⟩)) :: (.int .i64 ((f.E : Nat) : Int)) :: (.int .i64 ((P : Nat) : Int)) :: (.int .i64 ((P + e : Nat) : Int)) :: (.int .i64 ((P + e : Nat) : Int)) :: (.slice p20 (dig B32 (g.toNat * P + e)).length c20) :: (.pointer (some ⟨w.heap.size, 2, none⟩)) :: (.int .i64 ((f.F : Nat) : Int)) :: (.slice p23 (dig B32 ((g.toNat * P + e) * 2 ^ f.F)).length c23) :: (.pointer (some ⟨V1.heap.size, 2, none⟩)) :: (.slice p (dig B32 x).length c) :: (.slice p26 (dig B32 NN).length c26) :: (.pointer (some ⟨w.heap.size, 0, none⟩)) :: (.int .i64 ((f.size : Nat) : Int)) :: (.slice p29 f.size c29) :: (.slice p29 f.size c29) :: (.int .i64 ((f.size : Nat) : Int)) :: (.int .i64 ((i : Nat) : Int)) :: uvs U0 33 21 (us 6 []))).toArray, []⟩ ∧ (Own w' V6.heap.size .u8 5 p29 c29 (LL bs i)) ∧ Below V6.heap.size V6 w' ∧ (gk + i = f.size)) f.size ?_ (fun Gx hGx => ?_)
    · skip
      exact ⟨0, by kernel_rfl, (by rw [HB0.out]; exact b29), hbV7, (by omega)⟩
    rintro gk0 U0 _ V8 ⟨i, rfl, r29, hbV8, hgk⟩
    refine hGx _ _ _ ?_
    clear hGx Gx
    have hzV8 := hbV8.size
    refine ye ?_
    rcases Bool.eq_false_or_eq_true (decide (((i : Nat) : Int) < ((f.size : Nat) : Int))) with f33 | f33
    · skip
      refine yb 0 rfl 33 (decide (((i : Nat) : Int) < ((f.size : Nat) : Int))) (true) (f33) ?_
      refine yzt 0 ?_
      refine yTs ?_
      refine wp_skip ?_
      refine sx_then ?_
      refine wp_seq ?_
      refine wp_block ?_
      refine yq ?_
      refine ye ?_
      have b2_w8 := b2.past (bthru (bthru (bthru (bthru (bthru hbV2 hbV3) hbV4) hbV5) hbV6) hbV8)
      refine yl 2 rfl 37 b2_w8 hT3 0 ?_
      refine ya 0 rfl 38 .i64 (((f.size : Nat) : Int) - 1) (((f.size - 1 : Nat) : Int)) ((by rw [show (((f.size : Nat) : Int) - 1) = ((f.size - 1 : Nat) : Int) by omega]; exact IntWalk.i64_in _ (by omega))) ?_
      refine ya 1 rfl 40 .i64 (((f.size - 1 : Nat) : Int) - ((i : Nat) : Int)) (((f.size - 1 - i : Nat) : Int)) ((by rw [show (((f.size - 1 : Nat) : Int) - ((i : Nat) : Int)) = ((f.size - 1 - i : Nat) : Int) by have := of_decide_eq_true f33; omega]; exact IntWalk.i64_in _ (by omega))) ?_
      refine ya 0 rfl 41 .i64 ((8 : Int) * ((f.size - 1 - i : Nat) : Int)) (((8 * (f.size - 1 - i) : Nat) : Int)) ((by rw [show ((8 : Int) * ((f.size - 1 - i : Nat) : Int)) = ((8 * (f.size - 1 - i) : Nat) : Int) by omega]; exact IntWalk.i64_in _ (by omega))) ?_
      have o26_w8 := o26.past hbV8
      refine yc 0 rfl 42 (sshr p26 _ c26 NN (8 * (f.size - 1 - i)) (NN / 2 ^ (8 * (f.size - 1 - i))) _ V8 o26_w8.rd rfl (by have := o26_w8.le_cap; omega) (by omega) (by omega) rfl rfl) (fun Gx hGx => ?_)
      rintro eV9 V9 ⟨p42, c42, rfl, o42, hbV9⟩
      have hzV9 := hbV9.size
      refine ⟨_, rfl, hGx _ _ ?_⟩
      clear hGx Gx
      refine yzt 1 ?_
      have hi := of_decide_eq_true f33
      have hdi := hdg i (by omega)
      have hq0 := dig_len_zero B32_two (NN / 2 ^ (8 * (f.size - 1 - i)))
      refine ye ?_
      rcases Bool.eq_false_or_eq_true (decide ((((dig B32 (NN / 2 ^ (8 * (f.size - 1 - i)))).length : Nat) : Int) > 0)) with f45 | f45
      · skip
        refine yb 2 rfl 45 (decide ((((dig B32 (NN / 2 ^ (8 * (f.size - 1 - i)))).length : Nat) : Int) > 0)) (true) (f45) ?_
        refine yzt 0 ?_
        refine yT ?_
        refine sx_region ?_
        refine yv 3 rfl 49 (.pointer (some (at_ p42 0))) ?_ (exec_ix (p := p42) (n := (dig B32 (NN / 2 ^ (8 * (f.size - 1 - i)))).length) (c := c42) (m := 0) tyNat o42.rd.solid (by kernel_rfl) (by kernel_rfl) (by have := of_decide_eq_true f45; omega))
        refine yv 0 rfl 50 (.int .u32 ((dg (dig B32 (NN / 2 ^ (8 * (f.size - 1 - i)))) 0 : Nat) : Int)) ?_ (exec_ldr o42.rd ldU32 (m := 0) (by kernel_rfl) (by have := of_decide_eq_true f45; omega) rfl)
        refine ya 0 rfl 51 .u8 ((dg (dig B32 (NN / 2 ^ (8 * (f.size - 1 - i)))) 0 : Nat) : Int) (((dg bs i : Nat) : Int)) ((by rw [u8_wrap, dg_dig0, hdi]; congr 1; exact Nat.mod_mod_of_dvd _ (by decide))) ?_
        replace r29 := (r29.past hbV9)
        refine yv 0 rfl 52 (.pointer (some (at_ p29 i))) ?_ (exec_ixv (p := p29) (n := f.size) (c := c29) (m := i) tvBytes (by have h := r29.solid; rw [hLl, hbl] at h; exact h) (by kernel_rfl) (by kernel_rfl) (by omega))
        refine sputn tvBytes V6.heap.size p29 c29 _ r29 i (by rw [hLl, hbl]; omega) (dg bs i) (fun V10 n29 hjV10 => ?_)
        have hbV10 : Below V6.heap.size V6 V10 := (bthru hbV8 hbV9).trans (hjV10.mono (by omega))
        have hzV10 := hbV10.size
        refine yz 0 ?_
        refine sx_inblock ?_
        refine sx_then ?_
        refine sx_region ?_
        refine ya 0 rfl 53 .i64 (((i : Nat) : Int) + 1) (((i + 1 : Nat) : Int)) ((by rw [show (((i : Nat) : Int) + 1) = ((i + 1 : Nat) : Int) by omega]; exact IntWalk.i64_in _ (by omega))) ?_
        refine yz 1 ?_
        refine sx_then ?_
        refine ⟨gk0 - 1, (by omega), ?_⟩
        exact ⟨i + 1, by kernel_rfl, (by rw [← hbs i (by omega)]; exact n29), hbV10, (by omega)⟩
      refine yb 2 rfl 45 (decide ((((dig B32 (NN / 2 ^ (8 * (f.size - 1 - i)))).length : Nat) : Int) > 0)) (false) (f45) ?_
      refine yzt 0 ?_
      refine yF ?_
      refine wp_skip ?_
      refine sx_inblock ?_
      refine sx_then ?_
      refine sx_region ?_
      refine ya 0 rfl 53 .i64 (((i : Nat) : Int) + 1) (((i + 1 : Nat) : Int)) ((by rw [show (((i : Nat) : Int) + 1) = ((i + 1 : Nat) : Int) by omega]; exact IntWalk.i64_in _ (by omega))) ?_
      refine yz 1 ?_
      refine sx_then ?_
      refine ⟨gk0 - 1, (by omega), ?_⟩
      replace r29 := (r29.past hbV9)
      exact ⟨i + 1, by kernel_rfl, (by rw [← hbz i (by rw [hdi, hq0.1 (by have := of_decide_eq_false f45; omega)])]; exact r29), (bthru hbV8 hbV9), (by omega)⟩
    refine yb 0 rfl 33 (decide (((i : Nat) : Int) < ((f.size : Nat) : Int))) (false) (f33) ?_
    refine yzt 0 ?_
    refine yFs ?_
    refine wp_exit ?_
    repeat (with_reducible refine sx_thenexit ?_)
    refine sx_exit (id := 0) ?_
    refine sx_then ?_
    have hi : i = f.size := by have := of_decide_eq_false f33; omega
    rw [hi, hball] at r29
    refine ye ?_
    have b2_w8 := b2.past (bthru (bthru (bthru (bthru (bthru hbV2 hbV3) hbV4) hbV5) hbV6) hbV8)
    refine yl 1 rfl 55 b2_w8 hT114 11 ?_
    refine yn 1 rfl ?_
    refine se 57 (ordF f) #[.slice p29 f.size c29] (fun Gx hGx => ?_) (hr := exec_ord3 (ordF f) (ordF_is f) (by kernel_rfl) (by kernel_rfl))
    ((with_reducible refine (hord V8 V6.heap.size p29 c29 bs r29.wr hbl (by omega)).mono ?_))
    rintro eV9 V9 ⟨rfl, x57, hjV9⟩
    have hbV9 : Below V6.heap.size V6 V9 := hbV8.trans (hjV9.mono (by omega))
    have hzV9 := hbV9.size
    refine ⟨.tuple #[], rfl, hGx _ _ ?_⟩
    clear hGx Gx
    refine yzt 0 ?_
    refine ye ?_
    refine yv 1 rfl 59 (.string (strOf (ordL f.ord bs))) ?_ (exec_str (p := p29) (n := f.size) (c := c29) uBytes uByte uStr x57.rd (by rw [ordL_len, hbl]) (by kernel_rfl))
    refine yzt 1 ?_
    refine wp_ret ?_
    repeat (first | with_reducible refine sx_thenret ?_ | with_reducible refine sx_blockret ?_)
    refine yret (.string (strOf (ordL f.ord bs))) (res1 Tryd.results75 rvt) ?_
    exact ⟨rfl, (bthru (bthru (bthru (bthru (bthru (bthru hbV1 hbV2) hbV3) hbV4) hbV5) hbV6) hbV9)⟩
  refine ylb 1 rfl 13 b3 hT4 0 (g) false (f13) ?_
  refine yzt 0 ?_
  refine yF ?_
  refine wp_skip ?_
  refine sx_then ?_
  refine wp_seq ?_
  have b2_w2 := b2.past hbV2
  obtain ⟨V3, hVV3, hbV3, hzV3⟩ := drew_of V2
  have b2_w3 := b2.past (bthru hbV2 hbV3)
  replace b3 := (b3.past hbV3)
  refine yd2 hVV3 ⟨b2_w3, b3⟩ ?_
  clear hVV3
  refine yt 7 [0, 2] rfl ⟨b2_w3, b3⟩ ?_
  refine ytl 3 rfl 22 (fun _ h => h.1) hT3 2 ⟨b2_w3, b3⟩ ?_
  refine yt 5 [5] rfl ⟨b2_w3, b3⟩ ?_
  refine ytl 6 rfl 25 (fun _ h => h.2) hT23 2 ⟨b2_w3, b3⟩ ?_
  refine sxr [1] ?_
  refine rd1 (fun Kx hKx => ?_)
  refine yck 20 (sof ((e : Nat) : Int) (g.toNat * P + e) (by rw [f13, Bool.toNat_false, Nat.zero_mul, Nat.zero_add]) (by omega) V3) ?_
  rintro eV4 V4 ⟨p20, c20, rfl, o20, hbV4⟩
  have hzV4 := hbV4.size
  refine ⟨_, rfl, ?_⟩
  have b2_w4 := b2.past (bthru (bthru hbV2 hbV3) hbV4)
  replace b3 := (b3.past hbV4)
  refine hKx.out _ _ ⟨b2_w4, b3⟩ ?_
  clear hKx Kx
  refine sxr [4] ?_
  refine rd1 (fun Kx hKx => ?_)
  refine yck 23 (sshl p20 _ c20 (g.toNat * P + e) f.F ((g.toNat * P + e) * 2 ^ f.F) _ V4 o20.rd rfl (by have := dig_le_pow hT (k := 1) (by omega); omega) (by omega) rfl rfl) ?_
  rintro eV5 V5 ⟨p23, c23, rfl, o23, hbV5⟩
  have hzV5 := hbV5.size
  refine ⟨_, rfl, ?_⟩
  have b2_w5 := b2.past (bthru (bthru (bthru hbV2 hbV3) hbV4) hbV5)
  replace b3 := (b3.past hbV5)
  refine hKx.out _ _ ⟨b2_w5, b3⟩ ?_
  clear hKx Kx
  refine sxr [7] ?_
  refine rd1 (fun Kx hKx => ?_)
  replace hp := (hp.past (bthru (bthru (bthru (bthru hbV1 hbV2) hbV3) hbV4) hbV5))
  refine yck 26 (sadd p23 p _ _ c23 c ((g.toNat * P + e) * 2 ^ f.F) x NN V5 o23.rd hp rfl rfl (by omega) (by omega) HPE.out.symm) ?_
  rintro eV6 V6 ⟨p26, c26, rfl, o26, hbV6⟩
  have hzV6 := hbV6.size
  refine ⟨_, rfl, ?_⟩
  have b2_w6 := b2.past (bthru (bthru (bthru (bthru hbV2 hbV3) hbV4) hbV5) hbV6)
  replace b3 := (b3.past hbV6)
  refine hKx.out _ _ ⟨b2_w6, b3⟩ ?_
  clear hKx Kx
  refine yt 0 [8] rfl ⟨b2_w6, b3⟩ ?_
  refine sx_done (by kernel_rfl) ?_
  refine sx_then ?_
  refine ye ?_
  refine yl 1 rfl 28 b2_w6 hT3 0 ?_
  refine smkn 29 tvBytes f.size (by omega) (fun p29 c29 V7 b29 hjV7 => ?_)
  have hbV7 : Below V6.heap.size V6 V7 := (Below.refl _ _).trans (hjV7.mono (by omega))
  have hzV7 := hbV7.size
  refine yzt 1 ?_
  refine wp_seq ?_
  refine yq ?_
  refine wp_block ?_
  refine sx_frame (a' := ⟨((.agg #[.int .i64 ((f.size : Nat) : Int), .int .i64 ((f.E : Nat) : Int), .int .i64 ((f.F : Nat) : Int), .int .i64 f.g.rad, .int .i64 f.g.digs, .int .i64 f.g.lo, .int .i64 f.g.hi, .bool f.g.grad, .bool f.hid, .bool f.inf, .bool f.res, .func (.func (ordF f)) #[] #[]]) :: (.agg #[.bool g, .int .i64 ((e : Nat) : Int), .slice p (dig B32 x).length c]) :: (.pointer (some ⟨w.heap.size, 0, none⟩)) :: (.pointer (some ⟨V1.heap.size, 0, none⟩)) :: (Go.Value.string (ByteArray.mk #[])) :: (.int .i64 ((e : Nat) : Int)) :: (.slice p26 (dig B32 NN).length c26) :: (.slice p29 f.size c29) :: us 2 ((.pointer (some ⟨V1.heap.size, 1, none⟩)) :: (.int .i64 ((e : Nat) : Int)) :: (.pointer (some ⟨V1.heap.size, 0, none⟩)) :: (.bool false) :: us 5 ((.int .i64 ((e : Nat) : Int)) :: (.slice p20 (dig B32 (g.toNat * P + e)).length c20) :: (.pointer (some ⟨w.heap.size, 2, none⟩)) :: (.int .i64 ((f.F : Nat) : Int)) :: (.slice p23 (dig B32 ((g.toNat * P + e) * 2 ^ f.F)).length c23) :: (.pointer (some ⟨V1.heap.size, 2, none⟩)) :: (.slice p (dig B32 x).length c) :: (.slice p26 (dig B32 NN).length c26) :: (.pointer (some ⟨w.heap.size, 0, none⟩)) :: (.int .i64 ((f.size : Nat) : Int)) :: (.slice p29 f.size c29) :: (.slice p29 f.size c29) :: (.int .i64 ((f.size : Nat) : Int)) :: (.int .i64 0) :: us 27 []))).toArray, []⟩) (by kernel_rfl) ?_
  refine sx_loop2 (fun (gk : Nat) U0 a' w' => ∃ (i : Nat), a' = ⟨((.agg #[.int .i64 ((f.size : Nat) : Int), .int .i64 ((f.E : Nat) : Int), .int .i64 ((f.F : Nat) : Int), .int .i64 f.g.rad, .int .i64 f.g.digs, .int .i64 f.g.lo, .int .i64 f.g.hi, .bool f.g.grad, .bool f.hid, .bool f.inf, .bool f.res, .func (.func (ordF f)) #[] #[]]) :: (.agg #[.bool g, .int .i64 ((e : Nat) : Int), .slice p (dig B32 x).length c]) :: (.pointer (some ⟨w.heap.size, 0, none⟩)) :: (.pointer (some ⟨V1.heap.size, 0, none⟩)) :: (Go.Value.string (ByteArray.mk #[])) :: (.int .i64 ((e : Nat) : Int)) :: (.slice p26 (dig B32 NN).length c26) :: (.slice p29 f.size c29) :: uvs U0 8 2 ((.pointer (some ⟨V1.heap.size, 1, none⟩)) :: (.int .i64 ((e : Nat) : Int)) :: (.pointer (some ⟨V1.heap.size, 0, none⟩)) :: (.bool false) :: us 5 ((.int .i64 ((e : Nat) : Int)) :: (.slice p20 (dig B32 (g.toNat * P + e)).length c20) :: (.pointer (some ⟨w.heap.size, 2, none⟩)) :: (.int .i64 ((f.F : Nat) : Int)) :: (.slice p23 (dig B32 ((g.toNat * P + e) * 2 ^ f.F)).length c23) :: (.pointer (some ⟨V1.heap.size, 2, none⟩)) :: (.slice p (dig B32 x).length c) :: (.slice p26 (dig B32 NN).length c26) :: (.pointer (some ⟨w.heap.size, 0, none⟩)) :: (.int .i64 ((f.size : Nat) : Int)) :: (.slice p29 f.size c29) :: (.slice p29 f.size c29) :: (.int .i64 ((f.size : Nat) : Int)) :: (.int .i64 ((i : Nat) : Int)) :: uvs U0 33 21 (us 6 [])))).toArray, []⟩ ∧ (Own w' V6.heap.size .u8 5 p29 c29 (LL bs i)) ∧ Below V6.heap.size V6 w' ∧ (gk + i = f.size)) f.size ?_ (fun Gx hGx => ?_)
  · skip
    exact ⟨0, by kernel_rfl, (by rw [HB0.out]; exact b29), hbV7, (by omega)⟩
  rintro gk0 U0 _ V8 ⟨i, rfl, r29, hbV8, hgk⟩
  refine hGx _ _ _ ?_
  clear hGx Gx
  have hzV8 := hbV8.size
  refine ye ?_
  rcases Bool.eq_false_or_eq_true (decide (((i : Nat) : Int) < ((f.size : Nat) : Int))) with f33 | f33
  · skip
    refine yb 0 rfl 33 (decide (((i : Nat) : Int) < ((f.size : Nat) : Int))) (true) (f33) ?_
    refine yzt 0 ?_
    refine yTs ?_
    refine wp_skip ?_
    refine sx_then ?_
    refine wp_seq ?_
    refine wp_block ?_
    refine yq ?_
    refine ye ?_
    have b2_w8 := b2.past (bthru (bthru (bthru (bthru (bthru hbV2 hbV3) hbV4) hbV5) hbV6) hbV8)
    refine yl 2 rfl 37 b2_w8 hT3 0 ?_
    refine ya 0 rfl 38 .i64 (((f.size : Nat) : Int) - 1) (((f.size - 1 : Nat) : Int)) ((by rw [show (((f.size : Nat) : Int) - 1) = ((f.size - 1 : Nat) : Int) by omega]; exact IntWalk.i64_in _ (by omega))) ?_
    refine ya 1 rfl 40 .i64 (((f.size - 1 : Nat) : Int) - ((i : Nat) : Int)) (((f.size - 1 - i : Nat) : Int)) ((by rw [show (((f.size - 1 : Nat) : Int) - ((i : Nat) : Int)) = ((f.size - 1 - i : Nat) : Int) by have := of_decide_eq_true f33; omega]; exact IntWalk.i64_in _ (by omega))) ?_
    refine ya 0 rfl 41 .i64 ((8 : Int) * ((f.size - 1 - i : Nat) : Int)) (((8 * (f.size - 1 - i) : Nat) : Int)) ((by rw [show ((8 : Int) * ((f.size - 1 - i : Nat) : Int)) = ((8 * (f.size - 1 - i) : Nat) : Int) by omega]; exact IntWalk.i64_in _ (by omega))) ?_
    have o26_w8 := o26.past hbV8
    refine yc 0 rfl 42 (sshr p26 _ c26 NN (8 * (f.size - 1 - i)) (NN / 2 ^ (8 * (f.size - 1 - i))) _ V8 o26_w8.rd rfl (by have := o26_w8.le_cap; omega) (by omega) (by omega) rfl rfl) (fun Gx hGx => ?_)
    rintro eV9 V9 ⟨p42, c42, rfl, o42, hbV9⟩
    have hzV9 := hbV9.size
    refine ⟨_, rfl, hGx _ _ ?_⟩
    clear hGx Gx
    refine yzt 1 ?_
    have hi := of_decide_eq_true f33
    have hdi := hdg i (by omega)
    have hq0 := dig_len_zero B32_two (NN / 2 ^ (8 * (f.size - 1 - i)))
    refine ye ?_
    rcases Bool.eq_false_or_eq_true (decide ((((dig B32 (NN / 2 ^ (8 * (f.size - 1 - i)))).length : Nat) : Int) > 0)) with f45 | f45
    · skip
      refine yb 2 rfl 45 (decide ((((dig B32 (NN / 2 ^ (8 * (f.size - 1 - i)))).length : Nat) : Int) > 0)) (true) (f45) ?_
      refine yzt 0 ?_
      refine yT ?_
      refine sx_region ?_
      refine yv 3 rfl 49 (.pointer (some (at_ p42 0))) ?_ (exec_ix (p := p42) (n := (dig B32 (NN / 2 ^ (8 * (f.size - 1 - i)))).length) (c := c42) (m := 0) tyNat o42.rd.solid (by kernel_rfl) (by kernel_rfl) (by have := of_decide_eq_true f45; omega))
      refine yv 0 rfl 50 (.int .u32 ((dg (dig B32 (NN / 2 ^ (8 * (f.size - 1 - i)))) 0 : Nat) : Int)) ?_ (exec_ldr o42.rd ldU32 (m := 0) (by kernel_rfl) (by have := of_decide_eq_true f45; omega) rfl)
      refine ya 0 rfl 51 .u8 ((dg (dig B32 (NN / 2 ^ (8 * (f.size - 1 - i)))) 0 : Nat) : Int) (((dg bs i : Nat) : Int)) ((by rw [u8_wrap, dg_dig0, hdi]; congr 1; exact Nat.mod_mod_of_dvd _ (by decide))) ?_
      replace r29 := (r29.past hbV9)
      refine yv 0 rfl 52 (.pointer (some (at_ p29 i))) ?_ (exec_ixv (p := p29) (n := f.size) (c := c29) (m := i) tvBytes (by have h := r29.solid; rw [hLl, hbl] at h; exact h) (by kernel_rfl) (by kernel_rfl) (by omega))
      refine sputn tvBytes V6.heap.size p29 c29 _ r29 i (by rw [hLl, hbl]; omega) (dg bs i) (fun V10 n29 hjV10 => ?_)
      have hbV10 : Below V6.heap.size V6 V10 := (bthru hbV8 hbV9).trans (hjV10.mono (by omega))
      have hzV10 := hbV10.size
      refine yz 0 ?_
      refine sx_inblock ?_
      refine sx_then ?_
      refine sx_region ?_
      refine ya 0 rfl 53 .i64 (((i : Nat) : Int) + 1) (((i + 1 : Nat) : Int)) ((by rw [show (((i : Nat) : Int) + 1) = ((i + 1 : Nat) : Int) by omega]; exact IntWalk.i64_in _ (by omega))) ?_
      refine yz 1 ?_
      refine sx_then ?_
      refine ⟨gk0 - 1, (by omega), ?_⟩
      exact ⟨i + 1, by kernel_rfl, (by rw [← hbs i (by omega)]; exact n29), hbV10, (by omega)⟩
    refine yb 2 rfl 45 (decide ((((dig B32 (NN / 2 ^ (8 * (f.size - 1 - i)))).length : Nat) : Int) > 0)) (false) (f45) ?_
    refine yzt 0 ?_
    refine yF ?_
    refine wp_skip ?_
    refine sx_inblock ?_
    refine sx_then ?_
    refine sx_region ?_
    refine ya 0 rfl 53 .i64 (((i : Nat) : Int) + 1) (((i + 1 : Nat) : Int)) ((by rw [show (((i : Nat) : Int) + 1) = ((i + 1 : Nat) : Int) by omega]; exact IntWalk.i64_in _ (by omega))) ?_
    refine yz 1 ?_
    refine sx_then ?_
    refine ⟨gk0 - 1, (by omega), ?_⟩
    replace r29 := (r29.past hbV9)
    exact ⟨i + 1, by kernel_rfl, (by rw [← hbz i (by rw [hdi, hq0.1 (by have := of_decide_eq_false f45; omega)])]; exact r29), (bthru hbV8 hbV9), (by omega)⟩
  refine yb 0 rfl 33 (decide (((i : Nat) : Int) < ((f.size : Nat) : Int))) (false) (f33) ?_
  refine yzt 0 ?_
  refine yFs ?_
  refine wp_exit ?_
  repeat (with_reducible refine sx_thenexit ?_)
  refine sx_exit (id := 0) ?_
  refine sx_then ?_
  have hi : i = f.size := by have := of_decide_eq_false f33; omega
  rw [hi, hball] at r29
  refine ye ?_
  have b2_w8 := b2.past (bthru (bthru (bthru (bthru (bthru hbV2 hbV3) hbV4) hbV5) hbV6) hbV8)
  refine yl 1 rfl 55 b2_w8 hT114 11 ?_
  refine yn 1 rfl ?_
  refine se 57 (ordF f) #[.slice p29 f.size c29] (fun Gx hGx => ?_) (hr := exec_ord3 (ordF f) (ordF_is f) (by kernel_rfl) (by kernel_rfl))
  ((with_reducible refine (hord V8 V6.heap.size p29 c29 bs r29.wr hbl (by omega)).mono ?_))
  rintro eV9 V9 ⟨rfl, x57, hjV9⟩
  have hbV9 : Below V6.heap.size V6 V9 := hbV8.trans (hjV9.mono (by omega))
  have hzV9 := hbV9.size
  refine ⟨.tuple #[], rfl, hGx _ _ ?_⟩
  clear hGx Gx
  refine yzt 0 ?_
  refine ye ?_
  refine yv 1 rfl 59 (.string (strOf (ordL f.ord bs))) ?_ (exec_str (p := p29) (n := f.size) (c := c29) uBytes uByte uStr x57.rd (by rw [ordL_len, hbl]) (by kernel_rfl))
  refine yzt 1 ?_
  refine wp_ret ?_
  repeat (first | with_reducible refine sx_thenret ?_ | with_reducible refine sx_blockret ?_)
  refine yret (.string (strOf (ordL f.ord bs))) (res1 Tryd.results75 rvt) ?_
  exact ⟨rfl, (bthru (bthru (bthru (bthru (bthru (bthru hbV1 hbV2) hbV3) hbV4) hbV5) hbV6) hbV9)⟩
end Go.Proofs.YtcipdimogodndaaDoor

namespace Go.Slip

structure Pt where
  neg : Bool
  e : Nat
  x : Nat
def Fm.fr (f : Fm) (d : Dv) : Nat := d.m * 2 ^ (d.e - wid f.g * stepK d f.g).toNat
def Fm.numP (f : Fm) (d : Dv) : Pt :=
  if f.fam = 2 then ⟨d.neg, (stepK d f.g - f.g.lo).toNat, f.fr d⟩
  else if (blen (f.fr d) : Int) = f.g.digs then ⟨d.neg, (stepK d f.g - f.g.lo).toNat + 1, if f.ext then f.fr d else f.fr d - 2 ^ f.F⟩
  else ⟨d.neg, (stepK d f.g - f.g.lo).toNat, f.fr d⟩
def Fm.encP (f : Fm) (cls : Nat) (g : Bool) (d : Dv) : Pt :=
  if cls = 2 then f.numP d
  else if cls = 3 then ⟨g, 2 ^ f.E - 1, if f.ext then 2 ^ 63 else 0⟩
  else if cls = 4 then ⟨g, 2 ^ f.E - 1, if f.ext then 2 ^ 63 + 2 ^ 62 else 2 ^ (f.F - 1)⟩
  else if cls = 5 then ⟨true, 0, 0⟩
  else ⟨g, 0, 0⟩
def Fm.strP (f : Fm) (p : Pt) : List Nat := f.str p.neg p.e p.x

structure NumF (f : Fm) (d : Dv) : Prop where
  k1 : f.g.lo ≤ stepK d f.g
  k2 : stepK d f.g ≤ f.g.hi
  e0 : 0 ≤ d.e - wid f.g * stepK d f.g
  e1 : d.e - wid f.g * stepK d f.g ≤ 484
  lt : f.fr d < 2 ^ (wid f.g * f.g.digs.toNat)
  ne : f.fr d ≠ 0
  bl : (blen (f.fr d) : Int) ≤ wid f.g * f.g.digs
  low : f.fam ≠ 2 → (blen (f.fr d) : Int) ≠ f.g.digs → stepK d f.g = f.g.lo ∧ f.fam = 1

theorem numF_of {f : Fm} (G : GoodF f) {d : Dv} (hin : inGridD d f.g = true) (h0 : d.m ≠ 0) : NumF f d := by
  have hg := goodG_of G.g
  obtain ⟨a1, a2, a3, a4⟩ := step_bd hg hin h0
  have hd1 := hg.d1
  have wp := wid_pos f.g
  obtain ⟨D, hD⟩ : ∃ D : Nat, f.g.digs = D := ⟨f.g.digs.toNat, by omega⟩
  have hDt : f.g.digs.toNat = D := by omega
  have hbl : (blen (f.fr d) : Int) = topD d - wid f.g * stepK d f.g := by
    unfold Fm.fr
    rw [blen_shift (by omega)]
    unfold topD
    omega
  have hpos : f.fr d ≠ 0 := by
    unfold Fm.fr
    have := Nat.mul_pos (show 0 < d.m by omega) (Nat.pow_pos (n := (d.e - wid f.g * stepK d f.g).toNat) (show 0 < 2 by omega))
    omega
  have hb := ediv_bd (topD d - 1) (wid f.g) (by omega)
  have eU : upK d (wid f.g) D = (topD d - 1) / (wid f.g : Int) - D + 1 := rfl
  have eS : stepK d f.g = max f.g.lo (upK d (wid f.g) f.g.digs.toNat) := rfl
  rw [hDt] at eS
  have hle : upK d (wid f.g) D ≤ stepK d f.g := by omega
  have hmul : (wid f.g : Int) * upK d (wid f.g) D ≤ wid f.g * stepK d f.g := Int.mul_le_mul_of_nonneg_left hle (by omega)
  have eK : (wid f.g : Int) * upK d (wid f.g) D = wid f.g * ((topD d - 1) / (wid f.g : Int)) - wid f.g * D + wid f.g := by rw [eU]; grind
  have hbD : (blen (f.fr d) : Int) ≤ wid f.g * f.g.digs := by rw [hD]; omega
  have ewD : ((wid f.g * D : Nat) : Int) = wid f.g * D := Int.natCast_mul _ _
  refine ⟨a3, a4, by omega, by omega, ?_, hpos, hbD, fun hf hn => ?_⟩
  · rw [hDt]
    refine (blen_le _ _).1 ?_
    rw [hD] at hbD
    omega
  · have hw : wid f.g = 1 := by rw [G.w, if_neg hf]
    rw [hw] at hbl eU
    have hu : ¬ stepK d f.g = upK d 1 D := by
      intro h
      apply hn
      rw [hbl, h, eU, hD]
      have : (topD d - 1) / ((1 : Nat) : Int) = topD d - 1 := by simp
      omega
    rw [hw] at eS
    have hlo : stepK d f.g = f.g.lo := by omega
    refine ⟨hlo, ?_⟩
    have hlt : upK d 1 D < f.g.lo := by omega
    unfold inGridD at hin
    rw [if_neg h0, hDt, hw] at hin
    split at hin
    · simp at hin
    · have hgr := G.grad
      by_cases hf1 : f.fam = 1
      · exact hf1
      · rw [decide_eq_false hf1] at hgr
        rw [hgr] at hin
        simp at hin

theorem digs_hid {f : Fm} (G : GoodF f) (hf : f.fam ≠ 2) : (f.ext = false ∧ f.g.digs = f.F + 1) ∨ (f.ext = true ∧ f.g.digs = f.F ∧ f.F = 64) := by
  cases h : f.ext with
  | false => exact .inl ⟨rfl, G.d1 hf h⟩
  | true => have := G.ext h; exact .inr ⟨rfl, by omega, this.2.1⟩

theorem numP_lt {f : Fm} (G : GoodF f) {d : Dv} (N : NumF f d) : (f.numP d).e < 2 ^ f.E ∧ (f.numP d).x < 2 ^ f.F := by
  have hE1 : (2 : Nat) ^ 7 ≤ 2 ^ f.E := Nat.pow_le_pow_right (by omega) G.e1
  have h1 := N.k1
  have h2 := N.k2
  have hF2 := N.lt
  have hdd := G.d2
  have hw := G.w
  unfold Fm.numP
  by_cases hf : f.fam = 2
  · rw [if_pos hf]
    have := G.hi2 hf
    rw [hw, if_pos hf, show 4 * f.g.digs.toNat = f.F by have := hdd hf; omega] at hF2
    exact ⟨by simp only; omega, hF2⟩
  · rw [if_neg hf]
    rw [hw, if_neg hf, Nat.one_mul] at hF2
    have hhi : f.g.hi + 2 ≤ f.g.lo + (2 ^ f.E : Nat) := by
      have h3 := G.hi1
      have h4 := G.hi3
      have h5 := G.fam
      omega
    rcases digs_hid G hf with ⟨he, hd⟩ | ⟨he, hd, h64⟩
    · rw [show f.g.digs.toNat = f.F + 1 by omega, Nat.pow_succ] at hF2
      by_cases hb : (blen (f.fr d) : Int) = f.g.digs
      · rw [if_pos hb, if_neg (by simp [he])]
        exact ⟨by simp only; omega, by simp only; omega⟩
      · rw [if_neg hb]
        refine ⟨by simp only; omega, ?_⟩
        have hbl := N.bl
        rw [hw, if_neg hf] at hbl
        show f.fr d < 2 ^ f.F
        exact (blen_le _ _).1 (by omega)
    · rw [show f.g.digs.toNat = f.F by omega] at hF2
      by_cases hb : (blen (f.fr d) : Int) = f.g.digs
      · rw [if_pos hb, if_pos he]
        exact ⟨by simp only; omega, hF2⟩
      · rw [if_neg hb]
        exact ⟨by simp only; omega, hF2⟩

theorem encP_lt {f : Fm} (G : GoodF f) {cls : Nat} {g : Bool} {d : Dv} (N : cls = 2 → NumF f d) : (f.encP cls g d).e < 2 ^ f.E ∧ (f.encP cls g d).x < 2 ^ f.F := by
  have h0 : 0 < 2 ^ f.E := Nat.pow_pos (by omega)
  have h1 : 0 < 2 ^ f.F := Nat.pow_pos (by omega)
  have hF := G.f1
  have h2 : 2 ^ (f.F - 1) < 2 ^ f.F := Nat.pow_lt_pow_right (by omega) (by omega)
  have h3 : f.ext = true → 2 ^ f.F = 2 ^ 64 := fun h => by rw [(G.ext h).2.1]
  unfold Fm.encP
  by_cases c2 : cls = 2
  · rw [if_pos c2]; exact numP_lt G (N c2)
  · rw [if_neg c2]
    by_cases c3 : cls = 3
    · rw [if_pos c3]
      refine ⟨by simp only; omega, ?_⟩
      simp only
      split
      · rename_i h; rw [h3 h]; omega
      · exact h1
    · rw [if_neg c3]
      by_cases c4 : cls = 4
      · rw [if_pos c4]
        refine ⟨by simp only; omega, ?_⟩
        simp only
        split
        · rename_i h; rw [h3 h]; omega
        · exact h2
      · rw [if_neg c4]
        split
        · exact ⟨h0, h1⟩
        · exact ⟨h0, h1⟩

theorem bare_sign (g : Bool) (m : Nat) (e : Int) : (if g then dMinus (bare ⟨false, m, e⟩) else bare ⟨false, m, e⟩) = bare ⟨g, m, e⟩ := by
  cases g with
  | false => rfl
  | true =>
    rw [if_pos rfl]
    by_cases h : m = 0
    · subst h; rfl
    · unfold bare dMinus
      rw [if_neg h, if_neg h]
      have h1 := tz_spec m (by omega)
      have h2 : 0 < m / 2 ^ tz m := by
        rcases Nat.eq_zero_or_pos (m / 2 ^ tz m) with k | k
        · rw [k] at h1; simp at h1
        · exact k
      simp [h2]

end Go.Slip

namespace Go.Proofs.YtcipdimogodndaaDoor
open Go.RowKit Go.Slip

set_option maxHeartbeats 1000000 in
theorem width_any (g : Gd) (w : World) :
    Calls Tryd.prog 103 #[.agg #[.int .i64 g.rad, .int .i64 g.digs, .int .i64 g.lo, .int .i64 g.hi, .bool g.grad]] w fun e w' => e = .returned (.int .i64 (wid g : Nat)) ∧ Below w.heap.size w w' := by
  obtain ⟨rad, digs, lo, hi, grad⟩ := g
  simp only
  unfold wid
  simp only
  have hb : Below w.heap.size w (w.alloc (.cells #[.int .i64 rad, .int .i64 digs, .int .i64 lo, .int .i64 hi, .bool grad] 29)) := below_lay1 _ _
  by_cases h : rad = 16
  · subst h
    go_enter Tryd.func103, Tryd.ntmps103
    go_wp2
    go_ret
    exact ⟨by simp, hb⟩
  · have h1 : (rad == 16) = false := beq_eq_false_iff_ne.2 h
    rw [if_neg h]
    clear h
    go_enter Tryd.func103, Tryd.ntmps103
    go_wp2
    go_ret
    exact ⟨rfl, hb⟩

theorem floor_ediv {n : Int} {d : Nat} (hd : 1 ≤ d) (_h : n < 0) : -(((d : Int) - 1 - n) / d) = n / d := by
  have h1 := ediv_bd n d hd
  have h2 := ediv_bd ((d : Int) - 1 - n) d hd
  have hp : (0 : Int) < d := by omega
  generalize n / (d : Int) = x at *
  generalize ((d : Int) - 1 - n) / (d : Int) = y at *
  have h3 : (d : Int) * (x + y) < d := by rw [Int.mul_add]; omega
  have h4 : (d : Int) * (-1) < d * (x + y) := by rw [Int.mul_add]; omega
  have h5 := Int.lt_of_mul_lt_mul_left h4 (by omega)
  have h6 : (d : Int) * (x + y) < d * 1 := by omega
  have h7 := Int.lt_of_mul_lt_mul_left h6 (by omega)
  omega

set_option maxHeartbeats 1000000 in
theorem gfloor_any (n : Int) (d : Nat) (w : World) (hn : -1000000000 ≤ n ∧ n ≤ 1000000000) (hd : 1 ≤ d) (hd2 : d ≤ 1000) :
    Calls Tryd.prog 104 #[.int .i64 n, .int .i64 d] w fun e w' => e = .returned (.int .i64 (n / (d : Int))) ∧ w = w' := by
  obtain ⟨hn1, hn2⟩ := hn
  have t1 : ((d : Int) == 0) = false := beq_eq_false_iff_ne.2 (by omega)
  by_cases h : n < 0
  · have hq := Int.ediv_le_self (a := (d : Int) - 1 - n) (d : Int) (by omega)
    have hq0 := Int.ediv_nonneg (a := (d : Int) - 1 - n) (b := (d : Int)) (by omega) (by omega)
    rw [← floor_ediv hd h]
    go_enter Tryd.func104, Tryd.ntmps104
    go_wp2
    go_ret
    exact ⟨rfl, rfl⟩
  · have hq := Int.ediv_le_self (a := n) (d : Int) (by omega)
    have hq0 := Int.ediv_nonneg (a := n) (b := (d : Int)) (by omega) (by omega)
    go_enter Tryd.func104, Tryd.ntmps104
    go_wp2
    go_ret
    exact ⟨rfl, rfl⟩

end Go.Proofs.YtcipdimogodndaaDoor

namespace Go.Proofs.YtcipdimogodndaaDoor
open Go.RowKit Go.Slip

theorem len_shl' (a N n : Nat) (h : (dig B32 a).length ≤ n) : (dig B32 (a * 2 ^ N)).length ≤ n + (N / 32 + 1) := Nat.le_trans (len_shl a N) (by omega)
theorem numP_len {a : Nat} {n : Int} (h : (dig B32 a).length ≤ 1000000) (hn : -10000000 ≤ n ∧ n ≤ 10000000) : (dig B32 (numP a n)).length ≤ 1400000 := by
  have := len_shl' a n.toNat _ h; unfold numP; omega
theorem denP_len {a : Nat} {n : Int} (h : (dig B32 a).length ≤ 1000000) (hn : -10000000 ≤ n ∧ n ≤ 10000000) : (dig B32 (denP a n)).length ≤ 1400000 := by
  have := len_shl' a (-n).toNat _ h; unfold denP; omega

theorem gof_one (w : World) : Calls Tryd.prog 96 #[.int .i64 1] w (Gives w .u32 91 (dig B32 1)) := of_any 1 w (by omega)

def Gives3 (w : World) (q0 : Option Addr) (x y z : Nat) (en : Ending) (w' : World) : Prop :=
  ∃ p c q d r f, en = .returned (.tuple #[.slice p (dig B32 x).length c, .slice q (dig B32 y).length d, .slice r (dig B32 z).length f]) ∧ Own w' w.heap.size .u32 91 p c (dig B32 x) ∧ Own w' w.heap.size .u32 91 q d (dig B32 y) ∧ Rd w' .u32 r (dig B32 z) ∧ (r = q0 ∨ (0 < (dig B32 z).length → w.heap.size ≤ blk r)) ∧ Below w.heap.size w w'

set_option maxHeartbeats 1000000 in
theorem scaled_any (p q : Option Addr) (m k c d : Nat) (a b : Nat) (n : Int) (w : World) (hp : Rd w .u32 p (dig B32 a)) (hq : Rd w .u32 q (dig B32 b)) (hm : m = (dig B32 a).length) (hk : k = (dig B32 b).length)
    (hl : (dig B32 a).length ≤ 1000000) (hl2 : (dig B32 b).length ≤ 1000000) (hb : 0 < b) (hn : -10000000 ≤ n ∧ n ≤ 10000000) :
    Calls Tryd.prog 105 #[.slice p m c, .slice q k d, .int .i64 n] w (Gives3 w q (qP a b n) (rP a b n) (denP b n)) := by
  subst hm hk
  have l1 := numP_len hl hn
  have l2 := denP_len hl2 hn
  have h0 := denP_pos hb n
  unfold qP rP
  by_cases h : 0 ≤ n
  · obtain ⟨N, rfl⟩ : ∃ N : Nat, n = N := ⟨n.toNat, by omega⟩
    have e1 : denP b (N : Int) = b := by unfold denP; rw [show (-(N : Int)).toNat = 0 by omega, Nat.pow_zero, Nat.mul_one]
    have HN := Lib.hid (show numP a (N : Int) = a * 2 ^ N by unfold numP; rw [Int.toNat_natCast])
    rw [e1] at l2 h0 ⊢
    clear e1
    generalize numP a (N : Int) = x at *
    go_enter Tryd.func105, Tryd.ntmps105
    go_wp2_with fail
    ((with_reducible refine (shl_any p _ c a N _ hp rfl (by omega) (by omega)).mono ?_))
    rintro e1 w1 ⟨p1, c1, rfl, ho1, hb1⟩
    replace hp := hp.past hb1
    replace hq := hq.past hb1
    have hs1 := hb1
    rw [← HN.out] at ho1 ⊢
    go_wp2_with fail
    ((with_reducible refine (limbDiv_any p1 q _ _ c1 d x b _ ho1.rd hq rfl rfl (by omega) (by omega) h0).mono ?_))
    rintro e2 w2 ⟨p2, c2, q2, d2, rfl, ho2, ho3, hb2, -⟩
    replace hp := hp.past hb2
    replace hq := hq.past hb2
    replace ho1 := ho1.past hb2
    have hs2 := hs1.trans (hb2.mono hs1.size)
    go_wp2_with fail
    refine bodyPost_ret (v := .tuple #[.slice p2 (dig B32 (x / b)).length c2, .slice q2 (dig B32 (x % b)).length d2, .slice q (dig B32 b).length d]) (by simp [results, Tryd.results105, go_sem]) rfl ?_
    exact ⟨p2, c2, q2, d2, q, d, rfl, ho2.mono hs1.size, ho3.mono hs1.size, hq, .inl rfl, hs2⟩
  · obtain ⟨N, rfl⟩ : ∃ N : Nat, n = -(N : Int) := ⟨(-n).toNat, by omega⟩
    have e1 : numP a (-(N : Int)) = a := by unfold numP; rw [show (-(N : Int)).toNat = 0 by omega, Nat.pow_zero, Nat.mul_one]
    have HN := Lib.hid (show denP b (-(N : Int)) = b * 2 ^ N by unfold denP; rw [show (-(-(N : Int))).toNat = N by omega])
    rw [e1] at l1 ⊢
    clear e1
    generalize denP b (-(N : Int)) = x at *
    go_enter Tryd.func105, Tryd.ntmps105
    go_wp2_with fail
    ((with_reducible refine (shl_any q _ d b N _ hq rfl (by omega) (by omega)).mono ?_))
    rintro e1 w1 ⟨p1, c1, rfl, ho1, hb1⟩
    replace hp := hp.past hb1
    replace hq := hq.past hb1
    have hs1 := hb1
    rw [← HN.out] at ho1 ⊢
    go_wp2_with fail
    ((with_reducible refine (limbDiv_any p p1 _ _ c c1 a x _ hp ho1.rd rfl rfl (by omega) (by omega) h0).mono ?_))
    rintro e2 w2 ⟨p2, c2, q2, d2, rfl, ho2, ho3, hb2, -⟩
    replace hp := hp.past hb2
    replace hq := hq.past hb2
    replace ho1 := ho1.past hb2
    have hs2 := hs1.trans (hb2.mono hs1.size)
    go_wp2_with fail
    refine bodyPost_ret (v := .tuple #[.slice p2 (dig B32 (a / x)).length c2, .slice q2 (dig B32 (a % x)).length d2, .slice p1 (dig B32 x).length c1]) (by simp [results, Tryd.results105, go_sem]) rfl ?_
    exact ⟨p2, c2, q2, d2, p1, c1, rfl, ho2.mono hs1.size, ho3.mono hs1.size, ho1.rd, .inr fun h => (ho1.blk_lt (ho1.rd.solid h).1).1, hs2⟩

end Go.Proofs.YtcipdimogodndaaDoor

namespace Go.Slip
open Go.RowKit Go.MapKept

section
variable {P : Program} {w : World}

theorem run_insert_new {mt kt vt : TypeId} (hm : P.underlying mt = some (.map kt vt)) (hk : P.underlying kt = some (.int .i64)) (es : Array MapEntry) (clock : Nat) (k : Int) (v : Value)
    (hf : Instr.findNow (.int .i64) (.int .i64 k) es.toList 0 = some none) :
    (Instr.mapUpdate mt (.map (some w.heap.size)) (.int .i64 k) v).run P (w.alloc (.map es clock)) = .ok () (w.alloc (.map (es.push ⟨.int .i64 k, v, clock⟩) (clock + 1))) := by
  have hb : (w.alloc (.map es clock)).heap[w.heap.size]? = some (.map es clock) := by show (w.heap.push _)[_]? = _; simp
  simp [Instr.mapUpdate, run_underlying hm, MapKept.run_getObj_map hb, run_checkKey hk (show IsKey (.int .i64) (.int .i64 k) from rfl), run_findKey hk hf, run_setObj_map _ hb, Result.andThen]
  have e : (w.heap.push (.map es clock)).setIfInBounds w.heap.size (.map (es.push ⟨.int .i64 k, v, clock⟩) (clock + 1)) = w.heap.push (.map (es.push ⟨.int .i64 k, v, clock⟩) (clock + 1)) := by
    apply Array.ext'
    simp
  show World.mk _ _ _ _ _ = World.mk _ _ _ _ _
  congr 1

theorem run_lookup_int {mt kt vt : TypeId} {b : Nat} {es : Array MapEntry} {clock : Nat} (hm : P.underlying mt = some (.map kt vt)) (hk : P.underlying kt = some (.int .i64)) (hb : w.heap[b]? = some (.map es clock)) (k : Int)
    {i : Nat} {v : Value} (hf : Instr.findNow (.int .i64) (.int .i64 k) es.toList 0 = some (some (i, v))) :
    (Instr.lookup mt (.map (some b)) (.int .i64 k) false).run P w = .ok v w := by
  simp [Instr.lookup, run_underlying hm, MapKept.run_getObj_map hb, run_checkKey hk (show IsKey (.int .i64) (.int .i64 k) from rfl), run_findKey hk hf, Result.andThen]

theorem wpl_insert {ops : Array Oper} {rest : List Oper} {o : Oper} {a : Act} {Q : Exit → Act → World → Prop}
    (hg : o.guard = none) (m x v : Operand) (t : TypeId) (hop : o.op = Op.insert t m x v) {kt vt : TypeId} (hm : P.underlying t = some (.map kt vt)) (hk : P.underlying kt = some (.int .i64)) {es : Array MapEntry} {clock : Nat} {k : Int} {val : Value}
    (h1 : a.eval m = .map (some w.heap.size)) (h2 : a.eval x = .int .i64 k) (h3 : a.eval v = val) (hf : Instr.findNow (.int .i64) (.int .i64 k) es.toList 0 = some none)
    (h : wpList P ops Q rest (a.put o.dst undef) (w.alloc (.map (es.push ⟨.int .i64 k, val, clock⟩) (clock + 1)))) : wpList P ops Q (o :: rest) a (w.alloc (.map es clock)) := by
  refine wpList_plain hg fun K' hK' => ?_
  unfold Oper.wp
  simp [execOp, hop, h1, h2, h3, run_insert_new hm hk es clock k val hf, Result.andThen]
  exact hK' _ _ h
end

end Go.Slip

namespace Go.Proofs.YtcipdimogodndaaDoor
open Go.RowKit Go.Slip

def waysMap : Array MapEntry := #[⟨.int .i64 1, .func (.func 130) #[] #[], 0⟩, ⟨.int .i64 2, .func (.func 131) #[] #[], 1⟩, ⟨.int .i64 3, .func (.func 132) #[] #[], 2⟩, ⟨.int .i64 4, .func (.func 133) #[] #[], 3⟩, ⟨.int .i64 5, .func (.func 134) #[] #[], 4⟩]

theorem tyWays : Tryd.prog.underlying 160 = some (.map 3 159) := by kernel_rfl

def Ways (w : World) (b : Nat) : Prop := w.heap[b]? = some (.map waysMap 5)
theorem Ways.past {w w' : World} {b : Nat} (h : Ways w b) (hb : Below w.heap.size w w') : Ways w' b := (hb.block b (Array.getElem?_eq_some_iff.1 h).1).trans h

set_option maxHeartbeats 1000000 in
theorem ups_any (w : World) :
    Calls Tryd.prog 102 #[] w fun e w' => e = .returned (.map (some w.heap.size)) ∧ Ways w' w.heap.size ∧ Below w.heap.size w w' := by
  have hmm := @run_makeMap Tryd.prog
  go_enter Tryd.func102, Tryd.ntmps102
  go_wp2_with (refine wpl_insert rfl _ _ _ _ rfl tyWays Tryd.underlying3 rfl rfl rfl rfl ?_)
  go_ret
  exact ⟨rfl, by show (w.heap.push _)[_]? = _; simp [waysMap], (Below.refl _ _).alloc (Nat.le_refl _) _⟩

def wayF (k : Int) : Value := if k = 1 then .func (.func 130) #[] #[] else if k = 2 then .func (.func 131) #[] #[] else if k = 3 then .func (.func 132) #[] #[]
  else if k = 4 then .func (.func 133) #[] #[] else if k = 5 then .func (.func 134) #[] #[] else .nilFunc

theorem findWay_in {k : Int} (h1 : 1 ≤ k) (h2 : k ≤ 5) : ∃ i, Instr.findNow (.int .i64) (.int .i64 k) waysMap.toList 0 = some (some (i, wayF k)) := by
  obtain rfl | rfl | rfl | rfl | rfl : k = 1 ∨ k = 2 ∨ k = 3 ∨ k = 4 ∨ k = 5 := by omega
  · exact ⟨0, rfl⟩
  · exact ⟨1, rfl⟩
  · exact ⟨2, rfl⟩
  · exact ⟨3, rfl⟩
  · exact ⟨4, rfl⟩

theorem look_in {w : World} {b : Nat} (h : Ways w b) {k : Int} (h1 : 1 ≤ k) (h2 : k ≤ 5) :
    (Instr.lookup 160 (.map (some b)) (.int .i64 k) false).run Tryd.prog w = .ok (wayF k) w := by
  obtain ⟨i, hi⟩ := findWay_in h1 h2
  exact run_lookup_int tyWays Tryd.underlying3 h k hi

end Go.Proofs.YtcipdimogodndaaDoor

namespace Go.Proofs.YtcipdimogodndaaDoor
open Go.RowKit Go.Slip

set_option maxHeartbeats 400000 in
theorem ups1_any (neg odd : Bool) (half : Int) (w : World) :
    Calls Tryd.prog 130 #[.bool neg, .bool odd, .int .i64 half] w fun e w' => e = .returned (.bool (awayP 1 neg odd half)) ∧ w' = w := by
  unfold awayP
  simp only [if_true]
  by_cases h : 0 < half
  · go_enter Tryd.func130, Tryd.ntmps130
    go_wp2
    go_ret
    exact ⟨by simp [h], rfl⟩
  · by_cases h0 : half = 0
    · subst h0
      cases odd
      · go_enter Tryd.func130, Tryd.ntmps130
        go_wp2
        go_ret
        exact ⟨rfl, rfl⟩
      · go_enter Tryd.func130, Tryd.ntmps130
        go_wp2
        go_ret
        exact ⟨rfl, rfl⟩
    · have t0 : (half == 0) = false := beq_eq_false_iff_ne.2 h0
      have H := Lib.hid h0
      clear h0
      go_enter Tryd.func130, Tryd.ntmps130
      go_wp2
      go_ret
      exact ⟨by simp [H.out, show ¬ 0 < half from by omega], rfl⟩

set_option maxHeartbeats 400000 in
theorem ups2_any (neg odd : Bool) (half : Int) (w : World) :
    Calls Tryd.prog 131 #[.bool neg, .bool odd, .int .i64 half] w fun e w' => e = .returned (.bool (awayP 2 neg odd half)) ∧ w' = w := by
  have e : awayP 2 neg odd half = decide (0 ≤ half) := rfl
  rw [e]
  clear e
  by_cases h : 0 ≤ half
  · go_enter Tryd.func131, Tryd.ntmps131
    go_wp2
    go_ret
    exact ⟨by simp [h], rfl⟩
  · go_enter Tryd.func131, Tryd.ntmps131
    go_wp2
    go_ret
    exact ⟨by simp; omega, rfl⟩

set_option maxHeartbeats 400000 in
theorem ups3_any (neg odd : Bool) (half : Int) (w : World) :
    Calls Tryd.prog 132 #[.bool neg, .bool odd, .int .i64 half] w fun e w' => e = .returned (.bool (awayP 3 neg odd half)) ∧ w' = w := by
  have e : awayP 3 neg odd half = false := rfl
  rw [e]
  clear e
  go_enter Tryd.func132, Tryd.ntmps132
  go_wp2
  go_ret
  exact ⟨rfl, rfl⟩

set_option maxHeartbeats 400000 in
theorem ups4_any (neg odd : Bool) (half : Int) (w : World) :
    Calls Tryd.prog 133 #[.bool neg, .bool odd, .int .i64 half] w fun e w' => e = .returned (.bool (awayP 4 neg odd half)) ∧ w' = w := by
  have e : awayP 4 neg odd half = !neg := rfl
  rw [e]
  clear e
  go_enter Tryd.func133, Tryd.ntmps133
  go_wp2
  go_ret
  exact ⟨rfl, rfl⟩

set_option maxHeartbeats 400000 in
theorem ups5_any (neg odd : Bool) (half : Int) (w : World) :
    Calls Tryd.prog 134 #[.bool neg, .bool odd, .int .i64 half] w fun e w' => e = .returned (.bool (awayP 5 neg odd half)) ∧ w' = w := by
  have e : awayP 5 neg odd half = neg := rfl
  rw [e]
  clear e
  go_enter Tryd.func134, Tryd.ntmps134
  go_wp2
  go_ret
  exact ⟨rfl, rfl⟩

theorem wayF_spec {k : Int} (h1 : 1 ≤ k) (h2 : k ≤ 5) :
    ∃ f, wayF k = .func (.func f) #[] #[] ∧ (∀ (neg odd : Bool) (half : Int) (w : World), Calls Tryd.prog f #[.bool neg, .bool odd, .int .i64 half] w fun e w' => e = .returned (.bool (awayP k neg odd half)) ∧ w' = w) ∧ ∀ args w, (callFunc f args).run Tryd.prog w = .ok (.enter f args) w := by
  obtain rfl | rfl | rfl | rfl | rfl : k = 1 ∨ k = 2 ∨ k = 3 ∨ k = 4 ∨ k = 5 := by omega
  · exact ⟨_, rfl, ups1_any, fun _ _ => by kernel_rfl⟩
  · exact ⟨_, rfl, ups2_any, fun _ _ => by kernel_rfl⟩
  · exact ⟨_, rfl, ups3_any, fun _ _ => by kernel_rfl⟩
  · exact ⟨_, rfl, ups4_any, fun _ _ => by kernel_rfl⟩
  · exact ⟨_, rfl, ups5_any, fun _ _ => by kernel_rfl⟩

end Go.Proofs.YtcipdimogodndaaDoor

namespace Go.Proofs.YtcipdimogodndaaDoor
open Go.RowKit Go.Slip

def GivesP (w : World) (d : Pl) (en : Ending) (w' : World) : Prop :=
  ∃ p c, en = .returned (.agg #[.bool d.neg, .slice p (dig B32 d.d).length c, .int .i64 d.pow, .bool d.exact, .bool d.over, .bool d.under]) ∧ Own w' w.heap.size .u32 91 p c (dig B32 d.d) ∧ Below w.heap.size w w'

theorem mul_bd {wd : Nat} {k : Int} {B : Int} (h1 : wd ≤ 4) (hk : -B ≤ k ∧ k ≤ B) : -(4 * B) ≤ (wd : Int) * k ∧ (wd : Int) * k ≤ 4 * B := by
  have h0 : 0 ≤ (wd : Int) := by omega
  have a1 := Int.mul_le_mul_of_nonneg_left hk.1 h0
  have a2 := Int.mul_le_mul_of_nonneg_left hk.2 h0
  have hB : 0 ≤ B := by omega
  have a3 : (wd : Int) * B ≤ 4 * B := Int.mul_le_mul_of_nonneg_right (by omega) hB
  have a4 : (wd : Int) * -B = -((wd : Int) * B) := Int.mul_neg _ _
  omega

theorem ediv_abs {x B : Int} {wd : Nat} (h0 : 1 ≤ wd) (h : -B ≤ x ∧ x ≤ B) : -B ≤ x / wd ∧ x / wd ≤ B := by
  have h1 := ediv_bd x wd h0
  have hB : 0 ≤ B := by omega
  generalize x / (wd : Int) = y at *
  constructor
  · rcases Int.lt_or_le y (-B) with h2 | h2
    · have h3 : (wd : Int) * (y + 1) ≤ wd * (-B) := Int.mul_le_mul_of_nonneg_left (by omega) (by omega)
      have h4 : (wd : Int) * (-B) ≤ 1 * (-B) := Int.mul_le_mul_of_nonpos_right (by omega) (by omega)
      rw [Int.mul_add] at h3
      omega
    · exact h2
  · rcases Int.lt_or_le B y with h2 | h2
    · have h3 : (wd : Int) * (B + 1) ≤ wd * y := Int.mul_le_mul_of_nonneg_left (by omega) (by omega)
      have h4 : 1 * (B + 1) ≤ (wd : Int) * (B + 1) := Int.mul_le_mul_of_nonneg_right (by omega) (by omega)
      omega
    · exact h2

theorem u32_and1 {n : Nat} (h : n < 4294967296) : bits .and .u32 (n : Int) 1 = ((n % 2 : Nat) : Int) := by
  have h1 : (BitVec.ofInt 32 1).toNat = 2 ^ 1 - 1 := by decide
  have h2 : (BitVec.ofInt 32 (n : Int)).toNat = n := by rw [BitVec.ofInt_natCast, BitVec.toNat_ofNat, Nat.mod_eq_of_lt h]
  have key : (BitVec.ofInt 32 (n : Int) &&& BitVec.ofInt 32 1).toNat = n % 2 := by
    rw [BitVec.toNat_and, h2, h1, Nat.and_two_pow_sub_one_eq_mod]
  show IntKind.u32.wrap ((BitVec.ofInt 32 (n : Int) &&& BitVec.ofInt 32 1).toNat : Nat) = _
  rw [key]
  have : n % 2 < 2 := Nat.mod_lt _ (by omega)
  generalize n % 2 = r at *
  obtain rfl | rfl : r = 0 ∨ r = 1 := by omega
  · rfl
  · rfl

set_option maxHeartbeats 16000000 in
set_option maxRecDepth 100000 in
theorem fit_any (ng : Bool) (p q : Option Addr) (c d : Nat) (num den : Nat) (e : Int) (g : Gd) (way K : Int) (w : World) (hp : Rd w .u32 p (dig B32 num)) (hq : Rd w .u32 q (dig B32 den))
    (hl : (dig B32 num).length ≤ 100000) (hl2 : (dig B32 den).length ≤ 100000) (hn : 0 < num) (hd : 0 < den) (he : -1000000 ≤ e ∧ e ≤ 1000000) (G : GoodG g) (hw1 : 1 ≤ way) (hw2 : way ≤ 5) (hK : IsK num den e (wid g) g.digs.toNat K) :
    Calls Tryd.prog 57 #[.agg #[.bool ng, .slice p (dig B32 num).length c, .slice q (dig B32 den).length d, .int .i64 e], .agg #[.int .i64 g.rad, .int .i64 g.digs, .int .i64 g.lo, .int .i64 g.hi, .bool g.grad], .int .i64 way] w (GivesP w (fitK ng num den e g way K)) := by
  obtain ⟨_, gd1, gd2, gl1, gl2, gh1, gh2, gle⟩ := G
  obtain ⟨f, hf, hF, hcf⟩ := wayF_spec hw1 hw2
  have HCF := Lib.hid hcf
  clear hcf
  have HF := Lib.hid hF
  have HF0 := Lib.hid hf
  obtain ⟨pf, hpf⟩ : ∃ pf, fitK ng num den e g way K = pf := ⟨_, rfl⟩
  rw [hpf]
  have HPF := Lib.hid hpf
  have HWD := fun W => Lib.hid (width_any g W)
  have wp := wid_pos g
  obtain ⟨wd, hwd⟩ : ∃ wd, wid g = wd := ⟨_, rfl⟩
  rw [hwd] at wp HWD hK
  have HW := Lib.hid hwd
  obtain ⟨rad, digs, lo, hi, grad⟩ := g
  simp only at *
  obtain ⟨D, rfl⟩ : ∃ D : Nat, digs = D := ⟨digs.toNat, by omega⟩
  rw [Int.toNat_natCast] at hK
  have hD : 1 ≤ D := by omega
  have hden0 : 0 < (dig B32 den).length := by have := dig_len_zero B32_two den; omega
  have bn := blen_len32 num
  have bd := blen_len32 den
  obtain ⟨F1, F2⟩ := fullP_bd hn hd e (w := wd) (D := D) (by omega) hD _ rfl
  obtain ⟨x, hx⟩ : ∃ x : Int, (blen num : Int) - blen den + e = x := ⟨_, rfl⟩
  have hxb : -5000000 ≤ x ∧ x ≤ 5000000 := by omega
  have hxw := ediv_abs (wd := wd) wp.1 hxb
  have e0 : IntKind.i64.wrap ((blen num : Int) - blen den) = (blen num : Int) - blen den := IntWalk.i64_in _ (by omega)
  have e1 : IntKind.i64.wrap ((blen num : Int) - blen den + e) = x := by rw [IntWalk.i64_in _ (by omega), hx]
  rw [hx] at F1 F2
  have HX := Lib.hid hx
  have hK1 := hK.le hd F1
  have hK2 : K ≤ x / wd - D + 1 := by
    rcases Int.lt_or_le (x / wd - D + 1) K with h | h
    · exact absurd (fullP_anti hd hK.yes (by omega)) F2
    · exact h
  have HK := Lib.hid hK
  clear hF hf hpf hwd hx F1 F2 hK
  go_enter Tryd.func57, Tryd.ntmps57
  go_wp2_with fail
  refine calls_lay3 (fun W1 hb1 hz1 Q G R => ?_)
  replace hp := hp.past hb1
  replace hq := hq.past hb1
  have hs1 := hb1
  ((with_reducible refine ((HWD _).out).mono ?_))
  rintro e2 w2 ⟨rfl, hb2⟩
  replace Q := Q.past hb2
  replace G := G.past hb2
  replace R := R.past hb2
  replace hp := hp.past hb2
  replace hq := hq.past hb2
  have hs2 := hs1.trans (hb2.mono hs1.size)
  obtain ⟨Q_0, Q_1, Q_2, Q_3⟩ := Q.e4
  obtain ⟨G_0, G_1, G_2, G_3, G_4⟩ := G.e5
  obtain ⟨R_0, R_1, R_2, R_3, R_4, R_5⟩ := R.e6
  go_wp2_with fail
  clear Q_0 Q_1 Q_2 Q_3 G_0 G_1 G_2 G_3 G_4 R_0 R_1 R_2 R_3 R_4 R_5
  obtain ⟨Q_0, Q_1, Q_2, Q_3⟩ := Q.e4
  go_quiet ((first | (go_at_call_of 94 (Value.slice p (dig B32 num).length c); exact Calls.quiet_of_same ((len_any p _ c num _ (hp.drewN _) rfl (by omega)).mono fun _ _ h => ⟨h.1, h.2.symm⟩)) | (go_at_call_of 94 (Value.slice q (dig B32 den).length d); exact Calls.quiet_of_same ((len_any q _ d den _ (hq.drewN _) rfl (by omega)).mono fun _ _ h => ⟨h.1, h.2.symm⟩))))
  clear Q_0 Q_1 Q_2 Q_3
  have hb3 := below_drewN (Below.refl (w2).heap.size (w2)) nq
  replace Q := Q.past hb3
  replace G := G.past hb3
  replace R := R.past hb3
  replace hp := hp.past hb3
  replace hq := hq.past hb3
  have hs3 := hs2.trans (hb3.mono hs2.size)
  generalize (w2).drewN nq = w3 at *
  clear e0 e1
  obtain ⟨Q_0, Q_1, Q_2, Q_3⟩ := Q.e4
  obtain ⟨G_0, G_1, G_2, G_3, G_4⟩ := G.e5
  obtain ⟨R_0, R_1, R_2, R_3, R_4, R_5⟩ := R.e6
  go_wp2_with fail
  clear Q_0 Q_1 Q_2 Q_3 G_0 G_1 G_2 G_3 G_4 R_0 R_1 R_2 R_3 R_4 R_5
  have e0 : IntKind.i64.wrap (x / (wd : Int) - (D : Int)) = x / wd - D := IntWalk.i64_in _ (by omega)
  have e1 : IntKind.i64.wrap (x / (wd : Int) - (D : Int) + 1) = x / wd - D + 1 := IntWalk.i64_in _ (by omega)
  obtain ⟨G_0, G_1, G_2, G_3, G_4⟩ := G.e5
  go_quiet ((go_at_call 104; exact Calls.quiet_of_same ((gfloor_any x wd _ (by clear e0 e1; omega) wp.1 (by clear e0 e1; omega)).mono fun _ _ h => ⟨h.1, h.2.symm⟩)))
  clear G_0 G_1 G_2 G_3 G_4
  have hb4 := below_drewN (Below.refl (w3).heap.size (w3)) nq
  replace Q := Q.past hb4
  replace G := G.past hb4
  replace R := R.past hb4
  replace hp := hp.past hb4
  replace hq := hq.past hb4
  have hs4 := hs3.trans (hb4.mono hs3.size)
  generalize (w3).drewN nq = w4 at *
  clear e0 e1
  obtain ⟨k0, hk0⟩ : ∃ k0, x / (wd : Int) - D + 1 = k0 := ⟨_, rfl⟩
  have hk0b : -6000000 ≤ k0 ∧ k0 ≤ 6000000 := by omega
  rw [hk0] at hK2 ⊢
  have hK1 : k0 - 1 ≤ K := by omega
  have hm0 : -5001000 ≤ (wd : Int) * k0 ∧ (wd : Int) * k0 ≤ 5001000 := by
    have h1 := ediv_bd x wd wp.1
    have h2 : (wd : Int) * k0 = wd * (x / wd) - wd * D + wd := by rw [← hk0]; grind
    have h3 : (wd : Int) * D ≤ 4 * 120 := Int.mul_le_mul (by omega) (by omega) (by omega) (by omega)
    have h4 : 0 ≤ (wd : Int) * D := Int.mul_nonneg (by omega) (by omega)
    omega
  clear hk0 hxw
  go_wp2_with fail
  obtain ⟨N1, hN1⟩ : ∃ N1 : Nat, N1 = wd * (D - 1) := ⟨_, rfl⟩
  have hN1b : N1 ≤ 480 := by rw [hN1]; exact Nat.le_trans (Nat.mul_le_mul wp.2 (show D - 1 ≤ 120 by omega)) (by omega)
  have e0 : IntKind.i64.wrap ((D : Int) - 1) = ((D - 1 : Nat) : Int) := by rw [IntWalk.i64_in _ (by omega)]; omega
  have e1 : IntKind.i64.wrap ((wd : Int) * ((D - 1 : Nat) : Int)) = (N1 : Int) := by rw [IntWalk.i64_in _ (by rw [← Int.natCast_mul, ← hN1]; omega), ← Int.natCast_mul, ← hN1]
  have HN1 := Lib.hid hN1
  clear hN1
  have l1 : (dig B32 1).length ≤ 1 := by rw [dig_len_le B32_two]; unfold B32; omega
  have hz4 := hs4.size
  go_cut [10] (fun s10 wx => ∃ (pw : Option Addr) (cw : Nat), s10 = .slice pw (dig B32 (2 ^ N1)).length cw ∧ Own wx w4.heap.size .u32 91 pw cw (dig B32 (2 ^ N1)) ∧ Below w4.heap.size w4 wx)
  case first =>
    go_region_held3 (fun w' => w'.cell? ⟨w.heap.size + 1, 1, none⟩ = some (.int .i64 D))
      (first | with_reducible exact G.e5.2.1 | with_reducible exact G.drew.e5.2.1 | with_reducible exact (G.drew.past hbx).e5.2.1 | with_reducible exact ((G.drew.past hbx).past hby).e5.2.1)
      (first
        | (go_at_call 96; refine (of_any 1 _ (by clear e0 e1; omega)).mono ?_; rintro ex wx ⟨px, cx, rfl, hox, hbx⟩)
        | (go_at_call 90; refine (shl_any px _ cx 1 N1 _ hox.rd rfl (by clear e0 e1; omega) (by clear e0 e1; omega)).mono ?_; rw [Nat.one_mul]; rintro ey wy ⟨py, cy, rfl, hoy, hby⟩))
    all_goals (clear e0 e1)
    all_goals (go_wp2_with fail)
    all_goals go_meet
    all_goals (exact ⟨py, cy, rfl, hoy.mono hbx.size, ((Below.refl _ _).drew.trans hbx).trans (hby.mono hbx.size)⟩)
  case rest =>
    obtain ⟨pw, cw, rfl, how, hb5⟩ := hcut
    clear e0 e1
    replace Q := Q.past hb5
    replace G := G.past hb5
    replace R := R.past hb5
    replace hp := hp.past hb5
    replace hq := hq.past hb5
    have hs5 := hs4.trans (hb5.mono hs4.size)
    have hsw5 : W1.heap.size ≤ wc.heap.size := by have := hb2.size; have := hb3.size; have := hb4.size; have := hb5.size; omega
    have hz4w : W1.heap.size ≤ w4.heap.size := by have := hb2.size; have := hb3.size; have := hb4.size; omega
    clear hb5
    obtain ⟨Q_0, Q_1, Q_2, Q_3⟩ := Q.e4
    go_wp2_with fail
    clear Q_0 Q_1 Q_2 Q_3
    ((with_reducible refine (scaled_any p q _ _ c d num den (e - (wd : Int) * k0) _ hp hq rfl rfl (by omega) (by omega) hd (by omega)).mono ?_))
    rintro e6 w6 ⟨p1, c1, q1, d1, r1, f1, rfl, ho1, ho2, hr3, -, hb6⟩
    replace Q := Q.past hb6
    replace G := G.past hb6
    replace R := R.past hb6
    replace hp := hp.past hb6
    replace hq := hq.past hb6
    have hs6 := hs5.trans (hb6.mono hs5.size)
    have how := how.past hb6
    go_wp2_with fail
    go_loopg [9, 11, 12, 13] (k0 - K).toNat (fun gk kv av bv cv wr => ∃ (k : Int) (p2 q2 r2 : Option Addr) (c2 d2 f2 : Nat), kv = .int .i64 k ∧ (gk : Int) = k - K ∧ k ≤ k0 ∧ K ≤ k ∧
      av = .slice p2 (dig B32 (qP num den (e - wd * k))).length c2 ∧ bv = .slice q2 (dig B32 (rP num den (e - wd * k))).length d2 ∧ cv = .slice r2 (dig B32 (denP den (e - wd * k))).length f2 ∧
      Own wr W1.heap.size .u32 91 p2 c2 (dig B32 (qP num den (e - wd * k))) ∧ Own wr W1.heap.size .u32 91 q2 d2 (dig B32 (rP num den (e - wd * k))) ∧ Rd wr .u32 r2 (dig B32 (denP den (e - wd * k))) ∧ Below w6.heap.size w6 wr)
    case atStart => exact ⟨k0, p1, q1, r1, c1, d1, f1, rfl, by omega, by omega, by omega, rfl, rfl, rfl, ho1.mono hsw5, ho2.mono hsw5, hr3, Below.refl _ _⟩
    case round =>
      obtain ⟨k, p2, q2, r2, c2, d2, f2, rfl, hgk, hkk, hKk, rfl, rfl, rfl, ho4, ho5, hr6, hb7⟩ := hrel
      have hs7 := hs6.trans (hb7.mono hs6.size)
      replace Q := Q.past hb7
      replace G := G.past hb7
      replace R := R.past hb7
      replace hp := hp.past hb7
      replace hq := hq.past hb7
      replace how := how.past hb7
      have hmk : -5002000 ≤ (wd : Int) * k ∧ (wd : Int) * k ≤ 5002000 := by
        have hkd : k = k0 ∨ k = k0 - 1 := by omega
        rcases hkd with rfl | rfl
        · omega
        · rw [Int.mul_sub]; omega
      have lq : (dig B32 (qP num den (e - wd * k))).length ≤ 1400000 := Nat.le_trans (dig_len_mono B32_two (Nat.div_le_self _ _)) (numP_len (by omega) (by omega))
      have lw : (dig B32 (2 ^ N1)).length ≤ 16 := pow_small_len hN1b
      by_cases hfull : FullP num den e wd D k
      · have hkK : k = K := by have := HK.out.le hd hfull; omega
        subst hkK
        have hC : 0 ≤ cmpN (qP num den (e - wd * k)) (2 ^ N1) := by
          unfold FullP at hfull
          rw [← HN1.out] at hfull
          unfold cmpN; rw [if_neg (by omega)]; split <;> omega
        clear hfull
        go_wp2_with fail
        ((with_reducible refine (cmp_any p2 pw _ _ c2 cw _ _ _ ho4.rd how.rd rfl rfl (by omega) (by omega)).mono ?_))
        rintro e8 w8 ⟨rfl, hb8⟩
        replace Q := Q.past hb8
        replace G := G.past hb8
        replace R := R.past hb8
        replace hp := hp.past hb8
        replace hq := hq.past hb8
        replace how := how.past hb8
        replace ho4 := ho4.past hb8
        replace ho5 := ho5.past hb8
        replace hr6 := hr6.past hb8
        have hs8 := hs7.trans (hb8.mono hs7.size)
        obtain ⟨k1, hk1⟩ : ∃ k1, powK ⟨rad, D, lo, hi, grad⟩ k = k1 := ⟨_, rfl⟩
        have HK1 := Lib.hid hk1
        have hmk1 : -5003000 ≤ (wd : Int) * k1 ∧ (wd : Int) * k1 ≤ 5003000 := by
          have hlo := mul_bd (k := lo) wp.2 (B := 17000) ⟨by omega, by omega⟩
          rw [← hk1]; unfold powK; split
          · simp only; omega
          · omega
        have hk1b : -7000000 ≤ k1 ∧ k1 ≤ 7000000 := by
          rw [← hk1]; unfold powK; split
          · simp only; omega
          · omega
        clear hk1
        obtain ⟨un, hun⟩ : ∃ un, decide (k < lo) = un := ⟨_, rfl⟩
        have hz8 := R.lt
        have hsw8 : W1.heap.size ≤ w8.heap.size := by have := hb6.size; have := hb7.size; have := hb8.size; omega
        obtain ⟨Q_0, Q_1, Q_2, Q_3⟩ := Q.e4
        obtain ⟨G_0, G_1, G_2, G_3, G_4⟩ := G.e5
        go_upto_region 10 with (fail)
        clear Q_0 Q_1 Q_2 Q_3 G_0 G_1 G_2 G_3 G_4
        have HUN := Lib.hid hun
        clear hun
        have ho4o := ho4
        have ho5o := ho5
        have hr6o := hr6
        have hqo := hq
        have howo := how
        refine wp_lay1 (fun W9 hb9 hz9 P => ?_)
        replace Q := Q.past hb9
        replace G := G.past hb9
        replace R := R.past hb9
        replace hp := hp.past hb9
        replace hq := hq.past hb9
        replace how := how.past hb9
        replace ho4 := ho4.past hb9
        replace ho5 := ho5.past hb9
        replace hr6 := hr6.past hb9
        have hs9 := hs8.trans (hb9.mono hs8.size)
        obtain ⟨b1, hb1⟩ : ∃ b1, (un && grad) = b1 := ⟨_, rfl⟩
        have HB1 := Lib.hid hb1
        clear hb1
        have hp4 : p2.isSome = true → blk p2 ≠ w8.heap.size := fun h => by have := (ho4o.blk_lt h).2; omega
        have hp5 : q2.isSome = true → blk q2 ≠ w8.heap.size := fun h => by have := (ho5o.blk_lt h).2; omega
        have hp6 : 0 < (dig B32 (denP den (e - wd * k))).length → blk r2 ≠ w8.heap.size := fun h => by have := hr6o.lt h; omega
        have hpq : 0 < (dig B32 den).length → blk q ≠ w8.heap.size := fun h => by have := hqo.lt h; omega
        have hpw : pw.isSome = true → blk pw ≠ w8.heap.size := fun h => by have := (howo.blk_lt h).2; omega
        clear ho4o ho5o hr6o hqo howo
        go_cut [90] (fun s90 wx => s90 = .bool b1 ∧ wx = W9)
        case first =>
          obtain ⟨P_0, P_1, P_2, P_3, P_4, P_5⟩ := P.e6
          obtain ⟨G_0, G_1, G_2, G_3, G_4⟩ := G.e5
          cases un <;> cases grad <;> (go_wp2_with fail; go_meet; exact ⟨by rw [← HB1.out]; rfl, rfl⟩)
        case rest =>
          obtain ⟨rfl, rfl⟩ := hcut
          go_upto_if 90 with (fail)
          go_cut [9, 11, 12, 13] (fun s9 s11 s12 s13 wx => ∃ (p3 q3 r3 : Option Addr) (c3 d3 f3 : Nat), s9 = .int .i64 k1 ∧ s11 = .slice p3 (dig B32 (qP num den (e - wd * k1))).length c3 ∧ s12 = .slice q3 (dig B32 (rP num den (e - wd * k1))).length d3 ∧ s13 = .slice r3 (dig B32 (denP den (e - wd * k1))).length f3 ∧
            Own wx W1.heap.size .u32 91 p3 c3 (dig B32 (qP num den (e - wd * k1))) ∧ Own wx W1.heap.size .u32 91 q3 d3 (dig B32 (rP num den (e - wd * k1))) ∧ Rd wx .u32 r3 (dig B32 (denP den (e - wd * k1))) ∧
            (p3.isSome = true → blk p3 ≠ w8.heap.size) ∧ (q3.isSome = true → blk q3 ≠ w8.heap.size) ∧ (0 < (dig B32 (denP den (e - wd * k1))).length → blk r3 ≠ w8.heap.size) ∧ Below wc.heap.size wc wx)
          case first =>
            cases b1
            · obtain rfl : k = k1 := by
                have h1 := HK1.out; have h2 := HB1.out; have h3 := HUN.out
                unfold powK at h1
                rw [if_neg (by rintro ⟨a1, a2⟩; simp only at a1 a2; subst a2; rw [← h3, decide_eq_true a1] at h2; simp at h2)] at h1
                exact h1
              go_wp2_with fail
              go_meet
              exact ⟨p2, q2, r2, c2, d2, f2, rfl, rfl, rfl, rfl, ho4, ho5, hr6, hp4, hp5, hp6, Below.refl _ _⟩
            · obtain rfl : lo = k1 := by
                have h1 := HK1.out; have h2 := HB1.out; have h3 := HUN.out
                unfold powK at h1
                rw [if_pos ⟨by cases un; (simp at h2); simpa using h3, by cases un; (simp at h2); simpa using h2⟩] at h1
                exact h1
              obtain ⟨Q_0, Q_1, Q_2, Q_3⟩ := Q.e4
              obtain ⟨G_0, G_1, G_2, G_3, G_4⟩ := G.e5
              go_wp2_with fail
              clear Q_0 Q_1 Q_2 Q_3 G_0 G_1 G_2 G_3 G_4
              have hzc : W1.heap.size ≤ wc.heap.size := by omega
              ((with_reducible refine (scaled_any p q _ _ c d num den (e - (wd : Int) * lo) _ hp hq rfl rfl (by omega) (by omega) hd (by omega)).mono ?_))
              rintro e10 w10 ⟨p3, c3, q3, d3, r3, f3, rfl, ho7, ho8, hr9, hrq, hb10⟩
              replace Q := Q.past hb10
              replace G := G.past hb10
              replace R := R.past hb10
              replace P := P.past hb10
              replace hp := hp.past hb10
              replace hq := hq.past hb10
              replace how := how.past hb10
              replace ho4 := ho4.past hb10
              replace ho5 := ho5.past hb10
              replace hr6 := hr6.past hb10
              have hs10 := hs9.trans (hb10.mono hs9.size)
              have hzP := P.lt
              go_wp2_with fail
              go_meet
              refine ⟨p3, q3, r3, c3, d3, f3, rfl, rfl, rfl, rfl, ho7.mono hzc, ho8.mono hzc, hr9, fun h => ?_, fun h => ?_, fun h => ?_, hb10⟩
              · have := (ho7.blk_lt h).1; omega
              · have := (ho8.blk_lt h).1; omega
              · rcases hrq with rfl | hrq
                · exact hpq hden0
                · have := hrq h; omega
          case rest =>
            obtain ⟨p3, q3, r3, c3, d3, f3, rfl, rfl, rfl, rfl, ho7, ho8, hr9, hn7, hn8, hn9, hbc⟩ := hcut
            have hs10 := hs9.trans (hbc.mono hs9.size)
            have hzz : W1.heap.size ≤ wc.heap.size := by have := hbc.size; omega
            replace Q := Q.past hbc
            replace G := G.past hbc
            replace R := R.past hbc
            replace P := P.past hbc
            replace how := how.past hbc
            clear hbc
            have lX : (dig B32 (qP num den (e - wd * k1))).length ≤ 1400000 := Nat.le_trans (dig_len_mono B32_two (Nat.div_le_self _ _)) (numP_len (by omega) (by omega))
            have lZ : (dig B32 (denP den (e - wd * k1))).length ≤ 1400000 := denP_len (by omega) (by omega)
            have lY : (dig B32 (rP num den (e - wd * k1))).length ≤ 1400000 := Nat.le_trans (dig_len_mono B32_two (Nat.le_of_lt (Nat.mod_lt _ (denP_pos hd _)))) lZ
            obtain ⟨X, hX⟩ : ∃ X, qP num den (e - wd * k1) = X := ⟨_, rfl⟩
            obtain ⟨Y, hY⟩ : ∃ Y, rP num den (e - wd * k1) = Y := ⟨_, rfl⟩
            obtain ⟨Z, hZ⟩ : ∃ Z, denP den (e - wd * k1) = Z := ⟨_, rfl⟩
            rw [hX] at ho7 lX ⊢
            rw [hY] at ho8 lY ⊢
            rw [hZ] at hr9 hn9 lZ ⊢
            have HXX := Lib.hid hX
            have HYY := Lib.hid hY
            have HZZ := Lib.hid hZ
            obtain ⟨xb, hxb⟩ : ∃ xb, (((dig B32 Y).length : Int) == 0) = xb := ⟨_, rfl⟩
            clear hX hY hZ
            obtain ⟨P_0, P_1, P_2, P_3, P_4, P_5⟩ := P.e6
            have P_f0 := P.f 0
            have P_f1 := P.f 1
            have P_f2 := P.f 2
            have P_f3 := P.f 3
            have P_f4 := P.f 4
            have P_f5 := P.f 5
            go_upto_region 14 with (fail)
            clear P_0 P_1 P_2 P_3 P_4 P_5 P_f0 P_f1 P_f2 P_f3 P_f4 P_f5
            refine wp_set P (fun W11 hO11 P => ?_)
            replace P : Bx W11 w8.heap.size #[.bool ng, .slice none 0 0, .int .i64 0, .bool xb, .bool false, .bool un] := P
            replace Q := Q.only hO11 (by omega)
            replace G := G.only hO11 (by omega)
            replace R := R.only hO11 (by omega)
            replace ho7 := ho7.only hO11 hn7
            replace ho8 := ho8.only hO11 hn8
            replace hr9 := hr9.only hO11 hn9
            replace how := how.only hO11 hpw
            have hs11 := hs10.trans (hO11.below (B := w.heap.size) (by omega))
            have hzz : W1.heap.size ≤ W11.heap.size := by have := hO11.size; omega
            clear hO11
            obtain ⟨od, hod⟩ : ∃ od, decide (X % 2 = 1) = od := ⟨_, rfl⟩
            have HOD := Lib.hid hod
            have HXB := Lib.hid hxb
            clear hod hxb
            go_cut [15] (fun s15 wx => s15 = .bool od ∧ wx = W11)
            case first =>
              by_cases hX0 : 0 < (dig B32 X).length
              · have hx0 : 0 < X := by have := dig_len_zero B32_two X; omega
                rcases ho7.form with ⟨_, _, h⟩ | ⟨gX, rfl, _, _, _, _⟩
                · rw [h] at hX0; simp at hX0
                · have hcell := ho7.rd.cells 0 hX0
                  have hd0 : dg (dig B32 X) 0 = X % B32 := by rw [dig_pos B32_two hx0]; rfl
                  rw [hd0] at hcell
                  have hlt0 : X % B32 < 4294967296 := Nat.mod_lt _ B32_pos
                  have hbit : (bits BinOp.and IntKind.u32 ((X % B32 : Nat) : Int) 1 == 1) = od := by
                    rw [u32_and1 hlt0, ← HOD.out, show X % B32 % 2 = X % 2 by unfold B32; omega]
                    by_cases h : X % 2 = 1
                    · rw [h]; rfl
                    · rw [show X % 2 = 0 by omega]; rfl
                  generalize X % B32 = x0 at *
                  change W11.cell? ⟨gX, 0, none⟩ = _ at hcell
                  clear hd0
                  go_wp2_with fail
                  go_meet
                  exact ⟨rfl, rfl⟩
              · have hx0 : X = 0 := by have := dig_len_zero B32_two X; omega
                have hod0 : od = false := by rw [← HOD.out, hx0]; rfl
                subst hod0
                have hX1 : ¬ (0 : Int) < ((dig B32 X).length : Int) := by omega
                clear hx0
                go_wp2_with fail
                go_meet
                exact ⟨rfl, rfl⟩
            case rest =>
              obtain ⟨rfl, rfl⟩ := hcut
              obtain ⟨ub, hub⟩ : ∃ ub, upP ng num den e wd way k1 = ub := ⟨_, rfl⟩
              have HUB := Lib.hid hub
              clear hub
              go_upto_region 15 with (fail)
              go_cut [137] (fun s wx => s = .bool ub ∧ Below wc.heap.size wc wx)
              case first =>
                have hYY := HYY.out
                have hXX := HXX.out
                have hZZ := HZZ.out
                have hUB := HUB.out
                unfold upP at hUB
                rw [hYY, hXX, hZZ, HOD.out] at hUB
                have HUB2 := Lib.hid hUB
                clear hYY hXX hZZ hUB
                cases xb
                · have hY0 : Y ≠ 0 := by
                    have := HXB.out
                    intro h0
                    rw [h0, dig_zero] at this
                    simp at this
                  have HU3 : Hid (awayP way ng od (cmpN (Y * 2) Z) = ub) := by
                    have := HUB2.out
                    rw [decide_eq_true hY0, Bool.true_and] at this
                    exact this
                  have HLK := fun W b (hW : Ways W b) => Lib.hid (look_in hW hw1 hw2)
                  rw [HF0.out] at HLK
                  have lY2 : (dig B32 (Y * 2)).length ≤ 1500000 := by have := len_shl' Y 1 _ lY; rw [Nat.pow_one] at this; omega
                  have hcf := HCF.out
                  have hzd : wc.drew.heap.size = wc.heap.size := rfl
                  have HZD := Lib.hid hzd
                  clear hY0 hzd
                  go_region_held3 (fun w' => w'.cell? ⟨w8.heap.size, 3, none⟩ = some (.bool false) ∧ w'.cell? ⟨w.heap.size, 0, none⟩ = some (.bool ng))
                    (first 
                    | with_reducible exact ⟨P.e6.2.2.2.1, Q.e4.1⟩ 
                    | with_reducible exact ⟨(P.drew).e6.2.2.2.1, (Q.drew).e4.1⟩ 
                    | with_reducible exact ⟨((P.drew).past hbu).e6.2.2.2.1, ((Q.drew).past hbu).e4.1⟩ 
                    | with_reducible exact ⟨((P.drew).past hbs).e6.2.2.2.1, ((Q.drew).past hbs).e4.1⟩ 
                    | with_reducible exact ⟨(((P.drew).past hbu).past hbs).e6.2.2.2.1, (((Q.drew).past hbu).past hbs).e4.1⟩ 
                    | with_reducible exact ⟨(((P.drew).past hbs).past hbu).e6.2.2.2.1, (((Q.drew).past hbs).past hbu).e4.1⟩ 
                    | with_reducible exact ⟨(((P.drew).past hbs).past hbk).e6.2.2.2.1, (((Q.drew).past hbs).past hbk).e4.1⟩ 
                    | with_reducible exact ⟨((((P.drew).past hbu).past hbs).past hbk).e6.2.2.2.1, ((((Q.drew).past hbu).past hbs).past hbk).e4.1⟩ 
                    | with_reducible exact ⟨((((P.drew).past hbs).past hbu).past hbk).e6.2.2.2.1, ((((Q.drew).past hbs).past hbu).past hbk).e4.1⟩ 
                    | with_reducible exact ⟨((((P.drew).past hbs).past hbk).past hbu).e6.2.2.2.1, ((((Q.drew).past hbs).past hbk).past hbu).e4.1⟩)
                    (first
                      | (go_at_call 102; refine (ups_any _).mono ?_; rintro eu wu ⟨rfl, hwu, hbu⟩; (first | have hlu := (HLK _ wc.heap.size hwu).out | have hlu := (HLK _ _ hwu).out))
                      | (go_at_call 90; refine (shl_any q3 _ d3 Y 1 _ ?_ rfl (by omega) (by omega)).mono ?_; (first | exact (ho8.rd.drew) | exact ((ho8.rd.drew).past hbu) | exact ((ho8.rd.drew).past hbs) | exact (((ho8.rd.drew).past hbu).past hbs) | exact (((ho8.rd.drew).past hbs).past hbu) | exact (((ho8.rd.drew).past hbs).past hbk) | exact ((((ho8.rd.drew).past hbu).past hbs).past hbk) | exact ((((ho8.rd.drew).past hbs).past hbu).past hbk) | exact ((((ho8.rd.drew).past hbs).past hbk).past hbu)); rw [Nat.pow_one]; rintro es ws ⟨ps, cs, rfl, hos, hbs⟩; (first | have hls := (HLK _ wc.heap.size (hwu.past hbs)).out | skip))
                      | (go_at_call 91; refine (cmp_any ps r3 _ _ cs f3 _ _ _ ?_ ?_ rfl rfl (by omega) (by omega)).mono ?_; (first | exact hos.rd | exact hos.rd.past hbu); (first | exact (hr9.drew) | exact ((hr9.drew).past hbu) | exact ((hr9.drew).past hbs) | exact (((hr9.drew).past hbu).past hbs) | exact (((hr9.drew).past hbs).past hbu) | exact (((hr9.drew).past hbs).past hbk) | exact ((((hr9.drew).past hbu).past hbs).past hbk) | exact ((((hr9.drew).past hbs).past hbu).past hbk) | exact ((((hr9.drew).past hbs).past hbk).past hbu)); rintro ek wk ⟨rfl, hbk⟩; (first | (have hlk := (HLK _ wc.heap.size (hwu.past hbk)).out) | (have hlk := (HLK _ _ (hwu.past hbk)).out) | (have hlk := (HLK _ wc.heap.size ((hwu.past hbs).past hbk)).out) | skip))
                      | (refine (HF.out _ _ _ _).mono ?_; rintro ef wf ⟨rfl, rfl⟩))
                  all_goals (clear hcf)
                  all_goals (go_wp2_with fail)
                  all_goals go_meet
                  all_goals (refine ⟨by rw [HU3.out], ?_⟩)
                  all_goals (first
                    | exact (((Below.refl _ _).drew.trans hbu).trans (hbs.mono hbu.size)).trans (hbk.mono (Nat.le_trans hbu.size hbs.size))
                    | exact (((Below.refl _ _).drew.trans hbs).trans (hbu.mono hbs.size)).trans (hbk.mono (Nat.le_trans hbs.size hbu.size))
                    | exact (((Below.refl _ _).drew.trans hbs).trans (hbk.mono hbs.size)).trans (hbu.mono (Nat.le_trans hbs.size hbk.size)))
                · have hub0 : ub = false := by
                    have h0 : Y = 0 := by
                      have := HXB.out
                      have h1 := dig_len_zero B32_two Y
                      have h2 : ((dig B32 Y).length : Int) = 0 := by simpa using this
                      omega
                    have := HUB2.out
                    rw [h0] at this
                    simpa using this.symm
                  subst hub0
                  obtain ⟨P_0, P_1, P_2, P_3, P_4, P_5⟩ := P.e6
                  go_quiet (fail)
                  go_wp2_with fail
                  go_meet
                  exact ⟨rfl, below_drewN (Below.refl _ _) _⟩
              case rest =>
                obtain ⟨rfl, hbc⟩ := hcut
                have hs12 := hs11.trans (hbc.mono hs11.size)
                have hzz : W1.heap.size ≤ wc.heap.size := by have := hbc.size; omega
                replace Q := Q.past hbc
                replace G := G.past hbc
                replace R := R.past hbc
                replace P := P.past hbc
                replace how := how.past hbc
                replace ho7 := ho7.past hbc
                clear hbc hr9 ho8
                obtain ⟨dd, hdd⟩ : ∃ dd, digP ng num den e wd D way k1 = dd := ⟨_, rfl⟩
                obtain ⟨k2, hk2⟩ : ∃ k2, powP ng num den e wd D way k1 = k2 := ⟨_, rfl⟩
                have HDD : Hid (dd = (if ub = true ∧ wd * D < blen (X + if ub then 1 else 0) then 2 ^ N1 else X + if ub then 1 else 0) ∧ k2 = if ub = true ∧ wd * D < blen (X + if ub then 1 else 0) then k1 + 1 else k1) := by
                  rw [← hdd, ← hk2]
                  have h := digP_of (D := D) HUB.out HXX.out HN1.out
                  exact h
                have HDD0 := Lib.hid hdd
                have HKK0 := Lib.hid hk2
                clear hdd hk2
                go_upto_if 137 with (fail)
                go_cut [9, 11] (fun s9 s11 wx => ∃ (p4 : Option Addr) (c4 : Nat), s9 = .int .i64 k2 ∧ s11 = .slice p4 (dig B32 dd).length c4 ∧ Own wx W1.heap.size .u32 91 p4 c4 (dig B32 dd) ∧ (p4.isSome = true → blk p4 ≠ w8.heap.size) ∧ Below wc.heap.size wc wx)
                case first =>
                  cases ub
                  · obtain ⟨rfl, rfl⟩ : dd = X ∧ k2 = k1 := by simpa using HDD.out
                    go_wp2_with fail
                    go_meet
                    exact ⟨p3, c3, rfl, rfl, ho7, hn7, Below.refl _ _⟩
                  · have lX1 : (dig B32 (X + 1)).length ≤ 1500000 := by have := dig_len_add B32_two X 1; omega
                    have hP8 := P.lt
                    have hwz := hs12.size
                    have hbl := blen_len32 (X + 1)
                    go_wp2_with fail
                    ((with_reducible refine (gof_one _).mono ?_))
                    rintro e13 w13 ⟨p5, c5, rfl, ho5, hb13⟩
                    replace G := G.past hb13
                    replace ho7 := ho7.past hb13
                    replace how := how.past hb13
                    have hs13 := hb13
                    obtain ⟨G_0, G_1, G_2, G_3, G_4⟩ := G.e5
                    go_wp2_with fail
                    clear G_0 G_1 G_2 G_3 G_4
                    ((with_reducible refine (add_any p3 p5 _ _ c3 c5 X 1 _ ho7.rd ho5.rd rfl rfl (by omega) (by omega)).mono ?_))
                    rintro e14 w14 ⟨p6, c6, rfl, ho6, hb14⟩
                    replace G := G.past hb14
                    replace ho7 := ho7.past hb14
                    replace how := how.past hb14
                    replace ho5 := ho5.past hb14
                    have hs14 := hs13.trans (hb14.mono hs13.size)
                    obtain ⟨G_0, G_1, G_2, G_3, G_4⟩ := G.e5
                    go_wp2_with fail
                    clear G_0 G_1 G_2 G_3 G_4
                    have hwD : wd * D ≤ 480 := Nat.le_trans (Nat.mul_le_mul wp.2 (show D ≤ 120 by omega)) (by omega)
                    have e0 : IntKind.i64.wrap ((wd : Int) * (D : Int)) = ((wd * D : Nat) : Int) := by rw [IntWalk.i64_in _ (by rw [← Int.natCast_mul]; omega), Int.natCast_mul]
                    obtain ⟨G_0, G_1, G_2, G_3, G_4⟩ := G.e5
                    go_quiet ((go_at_call 94; exact Calls.quiet_of_same ((len_any p6 _ c6 (X + 1) _ (ho6.rd.drewN _) rfl (by clear e0; omega)).mono fun _ _ h => ⟨h.1, h.2.symm⟩)))
                    clear G_0 G_1 G_2 G_3 G_4
                    have hb15 := below_drewN (Below.refl (w14).heap.size (w14)) nq
                    replace G := G.past hb15
                    replace ho7 := ho7.past hb15
                    replace how := how.past hb15
                    replace ho5 := ho5.past hb15
                    replace ho6 := ho6.past hb15
                    have hs15 := hs14.trans (hb15.mono hs14.size)
                    generalize (w14).drewN nq = w15 at *
                    clear e0
                    have hz13 := hb13.size
                    have hz14 := hb14.size
                    by_cases hlong : wd * D < blen (X + 1)
                    · obtain ⟨rfl, rfl⟩ : dd = 2 ^ N1 ∧ k2 = k1 + 1 := by simpa [hlong] using HDD.out
                      go_wp2_with fail
                      go_meet
                      exact ⟨pw, cw, by go_num, rfl, how.mono hz4w, hpw, hs15⟩
                    · obtain ⟨rfl, rfl⟩ : dd = X + 1 ∧ k2 = k1 := by simpa [hlong] using HDD.out
                      go_wp2_with fail
                      go_meet
                      exact ⟨p6, c6, rfl, rfl, ho6.mono (Nat.le_trans hzz hz13), fun h => by have := (ho6.blk_lt h).1; omega, hs15⟩
                case rest =>
                  obtain ⟨p4, c4, rfl, rfl, ho10, hn10, hbc⟩ := hcut
                  have hs15 := hs12.trans (hbc.mono hs12.size)
                  replace Q := Q.past hbc
                  replace G := G.past hbc
                  replace R := R.past hbc
                  replace P := P.past hbc
                  clear hbc
                  obtain ⟨ov, hov⟩ : ∃ ov, decide (hi < k2) = ov := ⟨_, rfl⟩
                  have HPF2 : Hid (pf = ⟨ng, dd, if dd = 0 then 0 else k2, xb, ov, un⟩) := by
                    have h1 := HPF.out
                    rw [fitK_of HW.out (Int.toNat_natCast D) HK1.out HDD0.out HKK0.out HYY.out] at h1
                    have h6 := HXB.out; have h7 := HUN.out
                    simp only at h1
                    rw [hov, h7] at h1
                    rw [← h1]
                    have h9 : decide (Y = 0) = xb := by
                      rw [← h6]
                      have := dig_len_zero B32_two Y
                      by_cases h0 : Y = 0
                      · rw [decide_eq_true h0, h0, dig_zero]; rfl
                      · rw [decide_eq_false h0]; exact (beq_eq_false_iff_ne.2 (by omega)).symm
                    rw [h9]
                    rfl
                  obtain ⟨G_0, G_1, G_2, G_3, G_4⟩ := G.e5
                  obtain ⟨P_0, P_1, P_2, P_3, P_4, P_5⟩ := P.e6
                  have P_f0 := P.f 0
                  have P_f1 := P.f 1
                  have P_f2 := P.f 2
                  have P_f3 := P.f 3
                  have P_f4 := P.f 4
                  have P_f5 := P.f 5
                  go_upto_region 20 with (fail)
                  clear G_0 G_1 G_2 G_3 G_4 P_0 P_1 P_2 P_3 P_4 P_5 P_f0 P_f1 P_f2 P_f3 P_f4 P_f5
                  have HOV := Lib.hid hov
                  clear hov
                  refine wp_set P (fun W16 hO16 P => ?_)
                  replace P : Bx W16 w8.heap.size #[.bool ng, .slice none 0 0, .int .i64 0, .bool xb, .bool ov, .bool un] := P
                  replace R := R.only hO16 (by omega)
                  replace ho10 := ho10.only hO16 hn10
                  have hs16 := hs15.trans (hO16.below (B := w.heap.size) (by omega))
                  clear hO16
                  have hwP : w.heap.size ≤ w8.heap.size := by omega
                  by_cases hd0 : dd = 0
                  · have hdl : ¬ (0 : Int) < ((dig B32 dd).length : Int) := by rw [hd0, dig_zero]; simp
                    have hdl2 : ¬ 0 < (dig B32 dd).length := by omega
                    have HD0 := Lib.hid hd0
                    clear hd0
                    obtain ⟨P_0, P_1, P_2, P_3, P_4, P_5⟩ := P.e6
                    obtain ⟨R_0, R_1, R_2, R_3, R_4, R_5⟩ := R.e6
                    have R_f0 := R.f 0
                    have R_f1 := R.f 1
                    have R_f2 := R.f 2
                    have R_f3 := R.f 3
                    have R_f4 := R.f 4
                    have R_f5 := R.f 5
                    go_wp2_with fail
                    clear P_0 P_1 P_2 P_3 P_4 P_5 R_0 R_1 R_2 R_3 R_4 R_5 R_f0 R_f1 R_f2 R_f3 R_f4 R_f5
                    obtain ⟨R_0, R_1, R_2, R_3, R_4, R_5⟩ := R.e6
                    refine bodyPost_ret (v := .agg #[.bool ng, .slice none 0 0, .int .i64 0, .bool xb, .bool ov, .bool un]) (by simp [results, Tryd.results57, go_sem, R_0, R_1, R_2, R_3, R_4, R_5]) rfl ?_
                    rw [HPF2.out, if_pos HD0.out]
                    have hO := only6 W16 (w.heap.size + 1 + 1) (.bool ng) (.slice none 0 0) (.int .i64 0) (.bool xb) (.bool ov) (.bool un)
                    exact ⟨none, 0, by simp [HD0.out, dig_zero], by simp only [HD0.out, dig_zero]; exact Own.nil _ _ _ _, hs16.trans (hO.below (by omega))⟩
                  · have hdl : 0 < (dig B32 dd).length := by have := dig_len_zero B32_two dd; omega
                    have HD0 := Lib.hid hd0
                    clear hd0
                    obtain ⟨P_0, P_1, P_2, P_3, P_4, P_5⟩ := P.e6
                    have P_f0 := P.f 0
                    have P_f1 := P.f 1
                    have P_f2 := P.f 2
                    have P_f3 := P.f 3
                    have P_f4 := P.f 4
                    have P_f5 := P.f 5
                    go_upto_region 22 with (fail)
                    clear P_0 P_1 P_2 P_3 P_4 P_5 P_f0 P_f1 P_f2 P_f3 P_f4 P_f5
                    refine wp_set (P.set 1 _) (fun W17 hO17 P => ?_)
                    replace P : Bx W17 w8.heap.size #[.bool ng, .slice p4 (dig B32 dd).length c4, .int .i64 k2, .bool xb, .bool ov, .bool un] := P
                    replace hO17 := (only_set W16 w8.heap.size 1 _).trans hO17
                    replace R := R.only hO17 (by omega)
                    replace ho10 := ho10.only hO17 hn10
                    have hs17 := hs16.trans (hO17.below (B := w.heap.size) hwP)
                    clear hO17
                    obtain ⟨P_0, P_1, P_2, P_3, P_4, P_5⟩ := P.e6
                    obtain ⟨R_0, R_1, R_2, R_3, R_4, R_5⟩ := R.e6
                    have R_f0 := R.f 0
                    have R_f1 := R.f 1
                    have R_f2 := R.f 2
                    have R_f3 := R.f 3
                    have R_f4 := R.f 4
                    have R_f5 := R.f 5
                    go_wp2_with fail
                    clear P_0 P_1 P_2 P_3 P_4 P_5 R_0 R_1 R_2 R_3 R_4 R_5 R_f0 R_f1 R_f2 R_f3 R_f4 R_f5
                    obtain ⟨R_0, R_1, R_2, R_3, R_4, R_5⟩ := R.e6
                    refine bodyPost_ret (v := .agg #[.bool ng, .slice p4 (dig B32 dd).length c4, .int .i64 k2, .bool xb, .bool ov, .bool un]) (by simp [results, Tryd.results57, go_sem, R_0, R_1, R_2, R_3, R_4, R_5]) rfl ?_
                    rw [HPF2.out, if_neg HD0.out]
                    have hO := only6 W17 (w.heap.size + 1 + 1) (.bool ng) (.slice p4 (dig B32 dd).length c4) (.int .i64 k2) (.bool xb) (.bool ov) (.bool un)
                    exact ⟨p4, c4, rfl, (ho10.only hO (fun h => by have := (ho10.blk_lt h).1; omega)).mono (by omega), hs17.trans (hO.below (by omega))⟩
      · have hC : cmpN (qP num den (e - wd * k)) (2 ^ N1) ≤ -1 := by
          unfold FullP at hfull
          rw [← HN1.out] at hfull
          rw [cmpN_lt (by omega)]; omega
        have hk1 : K ≤ k - 1 := by
          rcases Int.lt_or_le (k - 1) K with h | h
          · obtain rfl : k = K := by omega
            exact absurd HK.out.yes hfull
          · exact h
        clear hfull
        have hmk2 : -5003000 ≤ (wd : Int) * (k - 1) ∧ (wd : Int) * (k - 1) ≤ 5003000 := by rw [Int.mul_sub]; omega
        go_wp2_with fail
        ((with_reducible refine (cmp_any p2 pw _ _ c2 cw _ _ _ ho4.rd how.rd rfl rfl (by omega) (by omega)).mono ?_))
        rintro e8 w8 ⟨rfl, hb8⟩
        replace Q := Q.past hb8
        replace G := G.past hb8
        replace R := R.past hb8
        replace hp := hp.past hb8
        replace hq := hq.past hb8
        replace how := how.past hb8
        have hs8 := hs7.trans (hb8.mono hs7.size)
        obtain ⟨Q_0, Q_1, Q_2, Q_3⟩ := Q.e4
        go_wp2_with fail
        clear Q_0 Q_1 Q_2 Q_3
        ((with_reducible refine (scaled_any p q _ _ c d num den (e - (wd : Int) * (k - 1)) _ hp hq rfl rfl (by omega) (by omega) hd (by omega)).mono ?_))
        rintro e9 w9 ⟨p3, c3, q3, d3, r3, f3, rfl, ho7, ho8, hr9, -, hb9⟩
        replace Q := Q.past hb9
        replace G := G.past hb9
        replace R := R.past hb9
        replace hp := hp.past hb9
        replace hq := hq.past hb9
        replace how := how.past hb9
        have hs9 := hs8.trans (hb9.mono hs8.size)
        go_wp2_with fail
        have hsw8 : W1.heap.size ≤ w8.heap.size := by have := hb6.size; have := hb7.size; have := hb8.size; omega
        go_roundg (gk - 1)
        case measure => omega
        case rel => exact ⟨k - 1, p3, q3, r3, c3, d3, f3, by go_num, by omega, by omega, hk1, rfl, rfl, rfl, ho7.mono hsw8, ho8.mono hsw8, hr9, (hb7.trans (hb8.mono hb7.size)).trans (hb9.mono (Nat.le_trans hb7.size hb8.size))⟩

end Go.Proofs.YtcipdimogodndaaDoor

namespace Go.Proofs.YtcipdimogodndaaDoor
open Go.RowKit Go.Slip

structure Rin where
  g : Bool
  p : Option Addr
  c : Nat
  xs : List Nat
  q : Option Addr
  d : Nat
  ys : List Nat
  e : Int

structure InR (w : World) (a : Rin) : Prop where
  r1 : Rd w .u32 a.p a.xs
  l1 : a.xs.length ≤ 9223372036854775807
  b1 : ∀ x ∈ a.xs, x < B32
  r2 : Rd w .u32 a.q a.ys
  l2 : a.ys.length ≤ 9223372036854775807
  b2 : ∀ x ∈ a.ys, x < B32

theorem InR.past {w w' : World} {a : Rin} (h : InR w a) (hb : Below w.heap.size w w') : InR w' a := ⟨h.r1.past hb, h.l1, h.b1, h.r2.past hb, h.l2, h.b2⟩

end Go.Proofs.YtcipdimogodndaaDoor

namespace Go.Proofs.YtcipdimogodndaaDoor
open Go.RowKit Go.Slip

theorem _root_.Go.Slip.Bx.b3 {w : World} {b : Nat} {v0 v1 v2 : Value} (h : Bx w b #[v0, v1, v2]) : Box3 w b v0 v1 v2 :=
  ⟨h.e3.1, h.e3.2.1, h.e3.2.2, h.f 0, h.f 1, h.f 2, h.lt⟩

structure Pin where
  g : Bool
  p : Option Addr
  c : Nat
  xs : List Nat
  k : Int
  x : Bool
  o : Bool
  u : Bool

structure InP (w : World) (a : Pin) : Prop where
  rd : Rd w .u32 a.p a.xs
  cap : a.xs.length ≤ a.c
  len : a.xs.length ≤ 9223372036854775807
  lt : ∀ x ∈ a.xs, x < B32

theorem InP.past {w w' : World} {a : Pin} (h : InP w a) (hb : Below w.heap.size w w') : InP w' a := ⟨h.rd.past hb, h.cap, h.len, h.lt⟩

end Go.Proofs.YtcipdimogodndaaDoor

namespace Go.Proofs.YtcipdimogodndaaDoor
open Go.RowKit Go.Slip

set_option maxHeartbeats 2000000 in
set_option maxRecDepth 100000 in
theorem gratio_any (g : Bool) (p : Option Addr) (n c : Nat) (e : Int) (w : World) :
    Calls Tryd.prog 116 #[.agg #[.bool g, .slice p n c, .int .i64 e]] w fun en w' => ∃ q d, en = .returned (.agg #[.bool g, .slice p n c, .slice q (dig B32 1).length d, .int .i64 e]) ∧ Own w' w.heap.size .u32 91 q d (dig B32 1) ∧ Below w.heap.size w w' := by
  go_enter Tryd.func116, Tryd.ntmps116
  go_wp2_with fail
  refine wp_lay2 (fun W1 hb1 hz1 A R => ?_)
  have hs1 := hb1
  have hzd : W1.drew.heap.size = W1.heap.size := rfl
  have HZD := Lib.hid hzd
  clear hzd
  go_region_held3 (fun w' => w'.cell? ⟨w.heap.size, 0, none⟩ = some (.bool g) ∧ w'.cell? ⟨w.heap.size, 1, none⟩ = some (.slice p n c) ∧ w'.cell? ⟨w.heap.size, 2, none⟩ = some (.int .i64 e))
    (first
      | with_reducible exact A.e3
      | with_reducible exact A.drew.e3
      | with_reducible exact (A.drew.past hbx).e3
      | with_reducible exact ((A.drew.past hbx).only (only4 _ _ _ _ _ _) (by omega)).e3)
    (first
      | (go_at_call 96; ((with_reducible refine (gof_one _).mono ?_)); rintro ex wx ⟨px, cx, rfl, hox, hbx⟩; (have RR := R.drew.past hbx); obtain ⟨R_0, R_1, R_2, R_3⟩ := RR.e4; (have R_f0 := RR.f 0); (have R_f1 := RR.f 1); (have R_f2 := RR.f 2); (have R_f3 := RR.f 3)))
  all_goals (go_wp2_with fail)
  refine bodyPost_ret (v := .agg #[.bool g, .slice p n c, .slice px (dig B32 1).length cx, .int .i64 e]) (by simp [results, Tryd.results116, go_sem, R_0, R_1, R_2, R_3]) rfl ?_
  have hzd := HZD.out
  have hO := only4 wx (w.heap.size + 1) (.bool g) (.slice p n c) (.slice px (dig B32 1).length cx) (.int .i64 e)
  have hz := hs1.size
  exact ⟨px, cx, rfl, (hox.only hO (fun h => by have := (hox.blk_lt h).1; omega)).mono (by omega), (hs1.drew.trans (hbx.mono hz)).trans (hO.below (by omega))⟩

set_option maxHeartbeats 8000000 in
set_option maxRecDepth 100000 in
theorem gkeeps_any (s : Bool) (p : Option Addr) (c : Nat) (e : Int) (m : Nat) (g : Gd) (w : World) (hp : Rd w .u32 p (dig B32 m)) (hl : (dig B32 m).length ≤ 100000) (he : -1000000 ≤ e ∧ e ≤ 1000000) (G : GoodG g) :
    Calls Tryd.prog 70 #[.agg #[.bool s, .slice p (dig B32 m).length c, .int .i64 e], .agg #[.int .i64 g.rad, .int .i64 g.digs, .int .i64 g.lo, .int .i64 g.hi, .bool g.grad]] w fun en w' => en = .returned (.bool (keepsD ⟨s, m, e⟩ g)) ∧ Below w.heap.size w w' := by
  by_cases h0 : m = 0
  · have hk : keepsD ⟨s, m, e⟩ g = true := by unfold keepsD; rw [if_pos h0]
    have HS := Lib.hid (show dSign ⟨s, m, e⟩ = 0 by unfold dSign; rw [if_pos h0])
    rw [hk]
    clear hk h0
    go_enter Tryd.func70, Tryd.ntmps70
    go_wp2_with fail
    refine calls_lay2 (fun W1 hb1 hz1 A B => ?_)
    have hs1 := hb1
    ((with_reducible refine (signD_any s p _ c e m _ rfl).mono ?_))
    rintro e2 w2 ⟨rfl, hb2⟩
    rw [HS.out]
    go_wp2
    go_ret
    exact ⟨rfl, hs1.trans (hb2.mono hs1.size)⟩
  · have hsg := dSign_pos (g := s) (e := e) (show 0 < m by omega)
    have wp := wid_pos g
    have hd1 := G.d1
    have hK := isK_one (show 0 < m by omega) e (w := wid g) (D := g.digs.toNat) wp.1 (by omega)
    have hl1 : (dig B32 1).length ≤ 1 := by rw [dig_len_le B32_two]; unfold B32; omega
    have HF := fun W q d (h1 : Rd W .u32 p (dig B32 m)) (h2 : Rd W .u32 q (dig B32 1)) => Lib.hid (fit_any s p q c d m 1 e g 3 _ W h1 h2 hl (by omega) (by omega) (by omega) he G (by omega) (by omega) hK)
    have hkk : keepsD ⟨s, m, e⟩ g = ((fitK s m 1 e g 3 ((e + blen m - 1) / wid g - g.digs.toNat + 1)).exact && !(fitK s m 1 e g 3 ((e + blen m - 1) / wid g - g.digs.toNat + 1)).over && (!(fitK s m 1 e g 3 ((e + blen m - 1) / wid g - g.digs.toNat + 1)).under || g.grad)) := by
      unfold keepsD
      rw [if_neg h0]
      rfl
    rw [hkk]
    generalize fitK s m 1 e g 3 ((e + blen m - 1) / wid g - g.digs.toNat + 1) = pf at *
    clear hkk h0 hK hd1 wp
    generalize hds : dSign ⟨s, m, e⟩ = sg0 at *
    have HSG := Lib.hid hds
    clear hds
    go_enter Tryd.func70, Tryd.ntmps70
    go_wp2_with fail
    refine calls_lay2 (fun W1 hb1 hz1 A B => ?_)
    replace hp := hp.past hb1
    have hs1 := hb1
    ((with_reducible refine (signD_any s p _ c e m _ rfl).mono ?_))
    rintro e2 w2 ⟨rfl, hb2⟩
    rw [HSG.out]
    replace A := A.past hb2
    replace B := B.past hb2
    replace hp := hp.past hb2
    have hs2 := hs1.trans (hb2.mono hs1.size)
    go_wp2_with fail
    have hAl := A.lt
    have hBl := B.lt
    have hzd : w2.drew.heap.size = w2.heap.size := rfl
    have HZD := Lib.hid hzd
    clear hzd
    go_cut [5] (fun s5 wx => ∃ (kx : Nat) (px : Option Addr) (cx : Nat), s5 = .pointer (some ⟨kx, 0, none⟩) ∧ Bx wx kx #[.bool pf.neg, .slice px (dig B32 pf.d).length cx, .int .i64 pf.pow, .bool pf.exact, .bool pf.over, .bool pf.under] ∧ w2.heap.size ≤ kx ∧ Below w2.heap.size w2 wx)
    case first =>
      go_region_held3 (fun w' => (w'.cell? ⟨w.heap.size, 0, none⟩ = some (.bool s) ∧ w'.cell? ⟨w.heap.size, 1, none⟩ = some (.slice p (dig B32 m).length c) ∧ w'.cell? ⟨w.heap.size, 2, none⟩ = some (.int .i64 e)) ∧
          (w'.cell? ⟨w.heap.size + 1, 0, none⟩ = some (.int .i64 g.rad) ∧ w'.cell? ⟨w.heap.size + 1, 1, none⟩ = some (.int .i64 g.digs) ∧ w'.cell? ⟨w.heap.size + 1, 2, none⟩ = some (.int .i64 g.lo) ∧ w'.cell? ⟨w.heap.size + 1, 3, none⟩ = some (.int .i64 g.hi) ∧ w'.cell? ⟨w.heap.size + 1, 4, none⟩ = some (.bool g.grad)))
        (first
        | with_reducible exact ⟨A.e3, B.e5⟩
        | with_reducible exact ⟨(A.drew).e3, (B.drew).e5⟩
        | with_reducible exact ⟨((A.laid _).drew).e3, ((B.laid _).drew).e5⟩
        | with_reducible exact ⟨(((A.laid _).drew).past hbx).e3, (((B.laid _).drew).past hbx).e5⟩
        | with_reducible exact ⟨((A.drew).past hbx).e3, ((B.drew).past hbx).e5⟩
        | with_reducible exact ⟨(((A.drew).past hbx).laid _).e3, (((B.drew).past hbx).laid _).e5⟩
        | with_reducible exact ⟨((((A.laid _).drew).past hbx).past hby).e3, ((((B.laid _).drew).past hbx).past hby).e5⟩
        | with_reducible exact ⟨((((A.drew).past hbx).laid _).past hby).e3, ((((B.drew).past hbx).laid _).past hby).e5⟩
        | with_reducible exact ⟨(((A.drew).past hbx).past hby).e3, (((B.drew).past hbx).past hby).e5⟩
        | with_reducible exact ⟨((((A.drew).past hbx).past hby).laid _).e3, ((((B.drew).past hbx).past hby).laid _).e5⟩
        | with_reducible exact ⟨(((((A.laid _).drew).past hbx).past hby).only (only6 _ _ _ _ _ _ _ _) (by omega)).e3, (((((B.laid _).drew).past hbx).past hby).only (only6 _ _ _ _ _ _ _ _) (by omega)).e5⟩
        | with_reducible exact ⟨(((((A.drew).past hbx).laid _).past hby).only (only6 _ _ _ _ _ _ _ _) (by omega)).e3, (((((B.drew).past hbx).laid _).past hby).only (only6 _ _ _ _ _ _ _ _) (by omega)).e5⟩)
        (first
          | (go_at_call 116; ((with_reducible refine (gratio_any s p _ c e _).mono ?_)); rintro ex wx ⟨qx, dx, rfl, hox, hbx⟩; (have hzx : w2.heap.size ≤ wx.heap.size := by have := hbx.size; simp at this; omega))
          | (go_at_call 57; (first
              | with_reducible refine (HF _ qx dx (hp.drew.past hbx) hox.rd).out.mono ?_
              | with_reducible refine (HF _ qx dx ((hp.laid _).drew.past hbx) hox.rd).out.mono ?_
              | with_reducible refine (HF _ qx dx ((hp.drew.past hbx).laid _) (hox.rd.laid _)).out.mono ?_); rintro ey wy ⟨py, cy, rfl, hoy, hby⟩; (first
              | (have XX := (bx_new w2 #[.bool false, .slice none 0 0, .int .i64 0, .bool false, .bool false, .bool false] 50).drew.past hbx |>.past hby; obtain ⟨X_0, X_1, X_2, X_3, X_4, X_5⟩ := XX.e6; have X_f0 := XX.f 0; have X_f1 := XX.f 1; have X_f2 := XX.f 2; have X_f3 := XX.f 3; have X_f4 := XX.f 4; have X_f5 := XX.f 5)
              | (have XX := (bx_new wx #[.bool false, .slice none 0 0, .int .i64 0, .bool false, .bool false, .bool false] 50).past hby; obtain ⟨X_0, X_1, X_2, X_3, X_4, X_5⟩ := XX.e6; have X_f0 := XX.f 0; have X_f1 := XX.f 1; have X_f2 := XX.f 2; have X_f3 := XX.f 3; have X_f4 := XX.f 4; have X_f5 := XX.f 5)
              | skip)))
      all_goals (go_wp2_with fail)
      all_goals go_meet
      · have hzy := hby.size
        exact ⟨wy.heap.size, py, cy, rfl, bx_new wy _ _, by omega, (((Below.refl w2.heap.size w2).drew.trans hbx).trans (hby.mono hzx)).trans ((below_lay1 wy _).mono (by omega))⟩
      · have hzy := hby.size
        rw [World.size_alloc] at hzy
        have hO := only6 wy wx.heap.size (.bool pf.neg) (.slice py (dig B32 pf.d).length cy) (.int .i64 pf.pow) (.bool pf.exact) (.bool pf.over) (.bool pf.under)
        exact ⟨wx.heap.size, py, cy, rfl, XX.put6 _ _ _ _ _ _, hzx, ((((Below.refl w2.heap.size w2).drew.trans hbx).trans ((below_lay1 wx _).mono hzx)).trans (hby.mono (by rw [World.size_alloc]; omega))).trans (hO.below hzx)⟩
      · have hzy := hby.size
        have hO := only6 wy w2.heap.size (.bool pf.neg) (.slice py (dig B32 pf.d).length cy) (.int .i64 pf.pow) (.bool pf.exact) (.bool pf.over) (.bool pf.under)
        exact ⟨w2.heap.size, py, cy, rfl, XX.put6 _ _ _ _ _ _, Nat.le_refl _, ((((below_lay1 w2 _).drew).trans (hbx.mono (by simp))).trans (hby.mono hzx)).trans (hO.below (Nat.le_refl _))⟩
    case rest =>
      obtain ⟨kx, px, cx, rfl, X, hkx, hbc⟩ := hcut
      have hs4 := hs2.trans (hbc.mono hs2.size)
      replace B := B.past hbc
      clear hbc
      obtain ⟨png, pd, ppw, pex, pov, pun⟩ := pf
      obtain ⟨X_0, X_1, X_2, X_3, X_4, X_5⟩ := X.e6
      obtain ⟨B_0, B_1, B_2, B_3, B_4⟩ := B.e5
      simp only at X_3 X_4 X_5 ⊢
      clear HF
      generalize hgr : g.grad = gr at *
      have HGR := Lib.hid hgr
      clear hgr
      cases pex <;> cases pov <;> cases pun <;> cases gr <;> (go_wp2; go_ret; exact ⟨by first | rfl | (rw [HGR.out]; rfl), hs4⟩)

end Go.Proofs.YtcipdimogodndaaDoor

namespace Go.Slip

theorem fit_step {s : Bool} {m : Nat} {e : Int} {g : Gd} (G : GoodG g) (hin : inGridD ⟨s, m, e⟩ g = true) (h0 : m ≠ 0) :
    (fitK s m 1 e g 3 ((e + blen m - 1) / wid g - g.digs.toNat + 1)).d = qP m 1 (e - wid g * stepK ⟨s, m, e⟩ g) ∧
    ((fitK s m 1 e g 3 ((e + blen m - 1) / wid g - g.digs.toNat + 1)).d ≠ 0 → (fitK s m 1 e g 3 ((e + blen m - 1) / wid g - g.digs.toNat + 1)).pow = stepK ⟨s, m, e⟩ g) ∧
    (fitK s m 1 e g 3 ((e + blen m - 1) / wid g - g.digs.toNat + 1)).d ≠ 0 := by
  have hb := step_bd G hin h0
  simp only at hb
  have hp : powK g ((e + blen m - 1) / wid g - g.digs.toNat + 1) = stepK ⟨s, m, e⟩ g := by
    have eK : stepK ⟨s, m, e⟩ g = max g.lo ((e + blen m - 1) / wid g - g.digs.toNat + 1) := rfl
    rw [eK]
    unfold powK
    by_cases h1 : (e + blen m - 1) / wid g - g.digs.toNat + 1 < g.lo
    · by_cases h2 : g.grad = true
      · rw [if_pos ⟨h1, h2⟩]; omega
      · exfalso
        unfold inGridD at hin
        rw [if_neg h0] at hin
        have eU : upK ⟨s, m, e⟩ (wid g) g.digs.toNat = (e + blen m - 1) / wid g - g.digs.toNat + 1 := rfl
        rw [eU] at hin
        rw [if_pos h1, if_neg h2] at hin
        simp at hin
    · rw [if_neg (fun h => h1 h.1)]; omega
  unfold fitK
  simp only
  rw [hp, digP_zero, powP_zero]
  have hq : qP m 1 (e - wid g * stepK ⟨s, m, e⟩ g) ≠ 0 := by
    unfold qP numP denP
    rw [show (-(e - wid g * stepK ⟨s, m, e⟩ g)).toNat = 0 by omega, Nat.pow_zero, Nat.mul_one, Nat.div_one]
    have := Nat.mul_pos (show 0 < m by omega) (Nat.pow_pos (n := (e - wid g * stepK ⟨s, m, e⟩ g).toNat) (show 0 < 2 by omega))
    omega
  exact ⟨rfl, fun h => by rw [if_neg h], hq⟩

end Go.Slip
namespace Go.Proofs.YtcipdimogodndaaDoor
open Go.RowKit Go.Slip

end Go.Proofs.YtcipdimogodndaaDoor

namespace Go.Slip

theorem tz_low16 {d r : Nat} (h0 : 0 < d) (h : d < 65536) : tz (d + 65536 * r) = tz d := by
  obtain ⟨h1, h2⟩ := tz_spec d h0
  have hle : tz d < 16 := by
    rcases Nat.lt_or_ge (tz d) 16 with h3 | h3
    · exact h3
    · have h4 : 2 ^ 16 ≤ 2 ^ tz d := Nat.pow_le_pow_right (by omega) h3
      have h5 : 0 < d / 2 ^ tz d := by
        rcases Nat.eq_zero_or_pos (d / 2 ^ tz d) with h | h
        · rw [h] at h2; simp at h2
        · exact h
      have h6 := Nat.mul_le_mul_left (2 ^ tz d) h5
      simp only [Nat.succ_eq_add_one, Nat.zero_add, Nat.mul_one] at h6
      omega
  obtain ⟨t, ht⟩ : ∃ t, t = tz d := ⟨_, rfl⟩
  rw [← ht] at h1 h2 hle ⊢
  obtain ⟨s, hs⟩ : ∃ s, 16 = t + (s + 1) := ⟨15 - t, by omega⟩
  have e : d + 65536 * r = (d / 2 ^ t + 2 * (2 ^ s * r)) * 2 ^ t := by
    have e1 : (65536 : Nat) = 2 ^ t * (2 ^ s * 2) := by
      rw [show (65536 : Nat) = 2 ^ 16 by decide, hs, Nat.pow_add, Nat.pow_succ]
    rw [e1, Nat.add_mul]
    conv => lhs; rw [← h1]
    grind
  rw [e]
  exact tz_mul _ _ (by omega)

theorem tz_dig16 {xs : List Nat} {a i : Nat} (ha : val B16 xs = a) (hz : ∀ j, j < i → dg xs j = 0) (hd : 0 < dg xs i) (hl : dg xs i < 65536) : tz a = 16 * i + tz (dg xs i) := by
  have h1 := val_take_drop0 B16 xs i
  have h2 : val B16 (xs.take i) = 0 := by
    have : xs.take i = List.replicate (xs.take i).length 0 := by
      apply list_ext_dg
      · simp
      · intro t ht
        simp only [List.length_take] at ht
        rw [dg_take (by omega), dg_replicate, hz t (by omega)]
    rw [this, val_replicate]
  rw [h2, val_drop0, Nat.zero_add] at h1
  have e : a = (dg xs i + 65536 * val B16 (xs.drop (i + 1))) * 2 ^ (16 * i) := by
    rw [← ha, h1, Nat.pow_mul, show (2 : Nat) ^ 16 = B16 by decide, Nat.mul_comm]
    rfl
  rw [e, tz_shift (by omega), tz_low16 hd hl]
  omega

def BareOut (xs : List Nat) (j n : Nat) : Prop := n = 16 * j ∧ ∀ i, i < j → dg xs i = 0

theorem BareOut.start (xs : List Nat) : BareOut xs 0 0 := ⟨rfl, fun i hi => by omega⟩
theorem BareOut.step {xs : List Nat} {j n : Nat} (h : BareOut xs j n) (hz : dg xs j = 0) : BareOut xs (j + 1) (n + 16) :=
  ⟨by have := h.1; omega, fun i hi => by
    by_cases he : i = j
    · subst he; exact hz
    · exact h.2 i (by omega)⟩
theorem BareOut.lt {xs : List Nat} {j n m : Nat} (h : BareOut xs j n) (hv : val B16 xs = m) (h0 : 0 < m) : j < xs.length := by
  rcases Nat.lt_or_ge j xs.length with h1 | h1
  · exact h1
  · have := val_zero_of (B := B16) (xs := xs) (fun i hi => h.2 i (by omega))
    omega

def BareIn (m d n : Nat) : Prop := ∃ t, n + tz d = t ∧ t = tz m ∧ 0 < d
theorem BareIn.start {xs : List Nat} {j n m : Nat} (h : BareOut xs j n) (hv : val B16 xs = m) (h0 : 0 < dg xs j) (hl : dg xs j < 65536) : BareIn m (dg xs j) n :=
  ⟨_, rfl, by rw [tz_dig16 hv h.2 h0 hl, h.1], h0⟩
theorem BareIn.step {m d n : Nat} (h : BareIn m d n) (he : d % 2 = 0) : BareIn m (d / 2) (n + 1) := by
  obtain ⟨t, h1, h2, h3⟩ := h
  rw [tz_even h3 he] at h1
  exact ⟨t, by omega, h2, by omega⟩
theorem BareIn.done {m d n : Nat} (h : BareIn m d n) (he : d % 2 = 1) : n = tz m := by
  obtain ⟨t, h1, h2, h3⟩ := h
  rw [tz_odd he] at h1
  omega

end Go.Slip

namespace Go.Slip
end Go.Slip
namespace Go.Proofs.YtcipdimogodndaaDoor
open Go.RowKit Go.Slip

theorem stay {P : Program} {f : FuncId} {args : Array Value} {w : World} {E : Ending} (h : Calls P f args w fun e w' => e = E ∧ w = w') : Calls P f args w fun e w' => e = E ∧ Below w.heap.size w w' :=
  h.mono fun e w' ⟨h1, h2⟩ => ⟨h1, by subst h2; exact Below.refl _ _⟩

end Go.Proofs.YtcipdimogodndaaDoor

namespace Go.Proofs.YtcipdimogodndaaDoor
open Go.RowKit Go.Slip

theorem cwidth_any (f : Fm) (w : World) : Calls Tryd.prog 118 #[.agg #[.int .i64 ((f.size : Nat) : Int), .int .i64 ((f.E : Nat) : Int), .int .i64 ((f.F : Nat) : Int), .int .i64 f.g.rad, .int .i64 f.g.digs, .int .i64 f.g.lo, .int .i64 f.g.hi, .bool f.g.grad, .bool f.hid, .bool f.inf, .bool f.res, .func (.func (ordF f)) #[] #[]]] w fun en w' => en = .returned (.int .i64 ((wid f.g : Nat) : Int)) ∧ Below w.heap.size w w' := by
  by_cases h : f.g.rad = 16
  · have hw : wid f.g = 4 := by unfold wid; rw [if_pos h]
    rw [hw]
    have hT3 : SxOne Tryd.prog 3 := sxOne_of (by kernel_rfl) (by kernel_rfl)
    refine calls_of_wp Tryd.func118 rfl ?_
    refine sx_frame (a' := ⟨((.agg #[.int .i64 ((f.size : Nat) : Int), .int .i64 ((f.E : Nat) : Int), .int .i64 ((f.F : Nat) : Int), .int .i64 f.g.rad, .int .i64 f.g.digs, .int .i64 f.g.lo, .int .i64 f.g.hi, .bool f.g.grad, .bool f.hid, .bool f.inf, .bool f.res, .func (.func (ordF f)) #[] #[]]) :: us 6 []).toArray, []⟩) (by kernel_rfl) ?_
    refine ye ?_
    refine yw 0 rfl 1 #[.int .i64 ((f.size : Nat) : Int), .int .i64 ((f.E : Nat) : Int), .int .i64 ((f.F : Nat) : Int), .int .i64 f.g.rad, .int .i64 f.g.digs, .int .i64 f.g.lo, .int .i64 f.g.hi, .bool f.g.grad, .bool f.hid, .bool f.inf, .bool f.res, .func (.func (ordF f)) #[] #[]] 116 (fun V1 hbV1 hzV1 b1 => ?_)
    refine yzt 1 ?_
    refine wp_seq ?_
    refine ye ?_
    refine yl 2 rfl 5 b1 hT3 3 ?_
    refine yb 0 rfl 6 (f.g.rad == 16) (true) (beq_iff_eq.2 h) ?_
    refine yzt 0 ?_
    refine yT ?_
    refine yq ?_
    refine wp_ret ?_
    repeat (first | with_reducible refine sx_thenret ?_ | with_reducible refine sx_blockret ?_)
    refine yret (.int .i64 4) (res1 Tryd.results118 rvt) ?_
    exact ⟨rfl, hbV1⟩
  · have hw : wid f.g = 1 := by unfold wid; rw [if_neg h]
    rw [hw]
    have hT3 : SxOne Tryd.prog 3 := sxOne_of (by kernel_rfl) (by kernel_rfl)
    refine calls_of_wp Tryd.func118 rfl ?_
    refine sx_frame (a' := ⟨((.agg #[.int .i64 ((f.size : Nat) : Int), .int .i64 ((f.E : Nat) : Int), .int .i64 ((f.F : Nat) : Int), .int .i64 f.g.rad, .int .i64 f.g.digs, .int .i64 f.g.lo, .int .i64 f.g.hi, .bool f.g.grad, .bool f.hid, .bool f.inf, .bool f.res, .func (.func (ordF f)) #[] #[]]) :: us 6 []).toArray, []⟩) (by kernel_rfl) ?_
    refine ye ?_
    refine yw 0 rfl 1 #[.int .i64 ((f.size : Nat) : Int), .int .i64 ((f.E : Nat) : Int), .int .i64 ((f.F : Nat) : Int), .int .i64 f.g.rad, .int .i64 f.g.digs, .int .i64 f.g.lo, .int .i64 f.g.hi, .bool f.g.grad, .bool f.hid, .bool f.inf, .bool f.res, .func (.func (ordF f)) #[] #[]] 116 (fun V1 hbV1 hzV1 b1 => ?_)
    refine yzt 1 ?_
    refine wp_seq ?_
    refine ye ?_
    refine yl 2 rfl 5 b1 hT3 3 ?_
    refine yb 0 rfl 6 (f.g.rad == 16) (false) (beq_eq_false_iff_ne.2 h) ?_
    refine yzt 0 ?_
    refine yF ?_
    refine wp_skip ?_
    refine sx_then ?_
    refine yq ?_
    refine wp_ret ?_
    repeat (first | with_reducible refine sx_thenret ?_ | with_reducible refine sx_blockret ?_)
    refine yret (.int .i64 1) (res1 Tryd.results118 rvt) ?_
    exact ⟨rfl, hbV1⟩

set_option maxHeartbeats 1000000 in
set_option maxRecDepth 100000 in
theorem raw_any (f : Fm) (g : Bool) (m : Nat) (pw k : Int) (p : Option Addr) (c : Nat) (w : World) (hp : Rd w .u32 p (dig B32 m)) (hc : (dig B32 m).length ≤ c) (hl : (dig B32 m).length ≤ 1000000) (hpw : -100000 ≤ pw ∧ pw ≤ 100000) (hT : TabW w) :
    Calls Tryd.prog 71 #[.agg #[.int .i64 ((f.size : Nat) : Int), .int .i64 ((f.E : Nat) : Int), .int .i64 ((f.F : Nat) : Int), .int .i64 f.g.rad, .int .i64 f.g.digs, .int .i64 f.g.lo, .int .i64 f.g.hi, .bool f.g.grad, .bool f.hid, .bool f.inf, .bool f.res, .func (.func (ordF f)) #[] #[]], .agg #[.int .i64 k, .bool g, .slice p (dig B32 m).length c, .int .i64 pw]] w (GivesD w w.heap.size (bare ⟨g, m, wid f.g * pw⟩)) := by
  have wp := wid_pos f.g
  have hmu := mul_bd (wd := wid f.g) (k := pw) (B := 100000) wp.2 hpw
  rw [← bare_sign]
  generalize hmw : (wid f.g : Int) * pw = mw at *
  have HMW := Lib.hid hmw
  have HW := fun W h1 h2 => Lib.hid (whole_any p _ c mw m W h1 rfl hc (by omega) (by omega) h2)
  clear hmw
  generalize hd : bare ⟨false, m, mw⟩ = d at *
  clear hd
  cases g with
  | false =>
    rw [if_neg (by simp)]
    have hT3 : SxOne Tryd.prog 3 := sxOne_of (by kernel_rfl) (by kernel_rfl)
    have hT4 : SxOne Tryd.prog 4 := sxOne_of (by kernel_rfl) (by kernel_rfl)
    have hT23 : SxOne Tryd.prog 23 := sxOne_of (by kernel_rfl) (by kernel_rfl)
    have hT97 : SxAgg Tryd.prog 97 3 := sxAgg_of (by kernel_rfl) (by kernel_rfl)
    have hT116 : SxAgg Tryd.prog 116 12 := sxAgg_of (by kernel_rfl) (by kernel_rfl)
    refine calls_of_wp Tryd.func71 rfl ?_
    refine sx_frame (a' := ⟨((.agg #[.int .i64 ((f.size : Nat) : Int), .int .i64 ((f.E : Nat) : Int), .int .i64 ((f.F : Nat) : Int), .int .i64 f.g.rad, .int .i64 f.g.digs, .int .i64 f.g.lo, .int .i64 f.g.hi, .bool f.g.grad, .bool f.hid, .bool f.inf, .bool f.res, .func (.func (ordF f)) #[] #[]]) :: (.agg #[.int .i64 k, .bool false, .slice p (dig B32 m).length c, .int .i64 pw]) :: us 17 []).toArray, []⟩) (by kernel_rfl) ?_
    refine ye ?_
    refine yw 0 rfl 2 #[.int .i64 ((f.size : Nat) : Int), .int .i64 ((f.E : Nat) : Int), .int .i64 ((f.F : Nat) : Int), .int .i64 f.g.rad, .int .i64 f.g.digs, .int .i64 f.g.lo, .int .i64 f.g.hi, .bool f.g.grad, .bool f.hid, .bool f.inf, .bool f.res, .func (.func (ordF f)) #[] #[]] 116 (fun V1 hbV1 hzV1 b2 => ?_)
    refine yw 0 rfl 3 #[.int .i64 k, .bool false, .slice p (dig B32 m).length c, .int .i64 pw] 56 (fun V2 hbV2 hzV2 b3 => ?_)
    refine yw 0 rfl 4 #[.bool false, .slice none 0 0, .int .i64 0] 97 (fun V3 hbV3 hzV3 b4 => ?_)
    refine yzt 0 ?_
    refine wp_seq ?_
    refine sx_cutg (R := fun a' w' => ∃ (kb5 : Nat) (p13 : Option Addr) (c13 : Nat), a' = ⟨((.agg #[.int .i64 ((f.size : Nat) : Int), .int .i64 ((f.E : Nat) : Int), .int .i64 ((f.F : Nat) : Int), .int .i64 f.g.rad, .int .i64 f.g.digs, .int .i64 f.g.lo, .int .i64 f.g.hi, .bool f.g.grad, .bool f.hid, .bool f.inf, .bool f.res, .func (.func (ordF f)) #[] #[]]) :: (.agg #[.int .i64 k, .bool false, .slice p (dig B32 m).length c, .int .i64 pw]) :: (.pointer (some ⟨w.heap.size, 0, none⟩)) :: (.pointer (some ⟨V1.heap.size, 0, none⟩)) :: (.pointer (some ⟨V2.heap.size, 0, none⟩)) :: (.pointer (some ⟨kb5, 0, none⟩)) :: (.pointer (some ⟨V1.heap.size, 2, none⟩)) :: (.slice p (dig B32 m).length c) :: (.agg #[.int .i64 ((f.size : Nat) : Int), .int .i64 ((f.E : Nat) : Int), .int .i64 ((f.F : Nat) : Int), .int .i64 f.g.rad, .int .i64 f.g.digs, .int .i64 f.g.lo, .int .i64 f.g.hi, .bool f.g.grad, .bool f.hid, .bool f.inf, .bool f.res, .func (.func (ordF f)) #[] #[]]) :: (.int .i64 ((wid f.g : Nat) : Int)) :: (.pointer (some ⟨V1.heap.size, 3, none⟩)) :: (.int .i64 pw) :: (.int .i64 mw) :: (.agg #[.bool d.neg, .slice p13 (dig B32 d.m).length c13, .int .i64 d.e]) :: us 5 []).toArray, []⟩ ∧ Bt w' kb5 97 #[.bool d.neg, .slice p13 (dig B32 d.m).length c13, .int .i64 d.e] ∧ Own w' V3.heap.size .u32 91 p13 c13 (dig B32 d.m) ∧ Below V3.heap.size V3 w' ∧ V3.heap.size ≤ kb5) ?_ (fun Gx hGx => ?_)
    · skip
      replace b3 := (b3.past hbV3)
      replace b2 := (b2.past (bthru hbV2 hbV3))
      obtain ⟨V4, hVV4, hbV4, hzV4⟩ := drew_of V3
      replace b3 := (b3.past hbV4)
      replace b2 := (b2.past hbV4)
      refine yd2 hVV4 ⟨b3, b2⟩ ?_
      clear hVV4
      refine yt 9 [0] rfl ⟨b3, b2⟩ ?_
      refine ytl 1 rfl 7 (fun _ h => h.1) hT23 2 ⟨b3, b2⟩ ?_
      refine ytla 2 rfl 8 (fun _ h => h.2) hT116 0 ⟨b3, b2⟩ ?_
      refine yt 6 [4] rfl ⟨b3, b2⟩ ?_
      refine ytl 5 rfl 11 (fun _ h => h.1) hT3 3 ⟨b3, b2⟩ ?_
      refine sxr [3, 8] ?_
      refine rd2 (fun Kx hKx => ?_) ?_
      · skip
        refine yck 9 (cwidth_any f V4) ?_
        rintro eV5 V5 ⟨rfl, hbV5⟩
        have hzV5 := hbV5.size
        refine ⟨_, rfl, ?_⟩
        replace b3 := (b3.past hbV5)
        replace b2 := (b2.past hbV5)
        refine hKx.out _ _ ⟨b3, b2⟩ ?_
        clear hKx Kx
        refine tk 6 12 (.int .i64 mw) ⟨b3, b2⟩ ?_ (hy := fun w' _ => ((show _ = Result.ok (Next.value (.int .i64 (IntKind.wrap .i64 (((wid f.g : Nat) : Int) * pw)))) _ by kernel_rfl).trans (congrArg (fun z => Result.ok (Next.value (.int .i64 z)) _) ((by rw [HMW.out]; exact IntWalk.i64_in _ (by omega))))))
        refine sxr [7, 8] ?_
        refine rd2 (fun Kx hKx => ?_) ?_
        · skip
          replace hp := (hp.past (bthru (bthru (bthru (bthru hbV1 hbV2) hbV3) hbV4) hbV5))
          replace hT := (hT.past (bthru (bthru (bthru (bthru hbV1 hbV2) hbV3) hbV4) hbV5))
          refine yck 13 ((HW V5 hp hT).out) ?_
          rintro eV6 V6 ⟨p13, c13, rfl, o13, hbV6⟩
          have hzV6 := hbV6.size
          refine ⟨_, rfl, ?_⟩
          replace b3 := (b3.past hbV6)
          replace b2 := (b2.past hbV6)
          refine hKx.out _ _ ⟨b3, b2⟩ ?_
          clear hKx Kx
          refine sxr [8] ?_
          refine rd1 (fun Kx hKx => ?_)
          refine snk 5 #[.bool false, .slice none 0 0, .int .i64 0] 97 (fun V7 hbV7 hzV7 b5 => ?_)
          replace b3 := (b3.past hbV7)
          replace b2 := (b2.past hbV7)
          refine hKx.out _ _ ⟨b3, b2⟩ ?_
          clear hKx Kx
          refine sxr [9] ?_
          refine rd1 (fun Kx hKx => ?_)
          refine ssk none b5 hT97 0 #[.bool d.neg, .slice p13 (dig B32 d.m).length c13, .int .i64 d.e] #[.bool d.neg, .slice p13 (dig B32 d.m).length c13, .int .i64 d.e] ?_
          have boV8 := b5
          clear b5
          intro V8 hOV8 b5
          have hzV8 := hOV8.size
          replace b3 := (b3.only hOV8 (by omega))
          replace b2 := (b2.only hOV8 (by omega))
          refine hKx.out _ _ ⟨b3, b2⟩ ?_
          clear hKx Kx
          refine sx_done (by kernel_rfl) ?_
          replace o13 := (o13.past (hbV7.trans (hOV8.below (by omega))))
          exact ⟨rfl, V6.heap.size, p13, c13, by kernel_rfl, b5, (o13.mono (by omega)), ((bthru (bthru (bthru hbV4 hbV5) hbV6) hbV7).trans (hOV8.below (by omega))), by omega⟩
        refine rd1 (fun Kx hKx => ?_)
        refine snk 5 #[.bool false, .slice none 0 0, .int .i64 0] 97 (fun V6 hbV6 hzV6 b5 => ?_)
        replace b3 := (b3.past hbV6)
        replace b2 := (b2.past hbV6)
        refine hKx.out _ _ ⟨b3, b2⟩ ?_
        clear hKx Kx
        refine sxr [7] ?_
        refine rd1 (fun Kx hKx => ?_)
        replace hp := (hp.past (bthru (bthru (bthru (bthru (bthru hbV1 hbV2) hbV3) hbV4) hbV5) hbV6))
        replace hT := (hT.past (bthru (bthru (bthru (bthru (bthru hbV1 hbV2) hbV3) hbV4) hbV5) hbV6))
        refine yck 13 ((HW V6 hp hT).out) ?_
        rintro eV7 V7 ⟨p13, c13, rfl, o13, hbV7⟩
        have hzV7 := hbV7.size
        refine ⟨_, rfl, ?_⟩
        replace b3 := (b3.past hbV7)
        replace b2 := (b2.past hbV7)
        refine hKx.out _ _ ⟨b3, b2⟩ ?_
        clear hKx Kx
        refine sxr [9] ?_
        refine rd1 (fun Kx hKx => ?_)
        replace b5 := (b5.past hbV7)
        refine ssk none b5 hT97 0 #[.bool d.neg, .slice p13 (dig B32 d.m).length c13, .int .i64 d.e] #[.bool d.neg, .slice p13 (dig B32 d.m).length c13, .int .i64 d.e] ?_
        have boV8 := b5
        clear b5
        intro V8 hOV8 b5
        have hzV8 := hOV8.size
        replace b3 := (b3.only hOV8 (by omega))
        replace b2 := (b2.only hOV8 (by omega))
        refine hKx.out _ _ ⟨b3, b2⟩ ?_
        clear hKx Kx
        refine sx_done (by kernel_rfl) ?_
        replace o13 := (o13.put boV8 hOV8 (by kernel_rfl))
        exact ⟨rfl, V5.heap.size, p13, c13, by kernel_rfl, b5, (o13.mono (by omega)), ((bthru (bthru (bthru hbV4 hbV5) hbV6) hbV7).trans (hOV8.below (by omega))), by omega⟩
      refine rd1 (fun Kx hKx => ?_)
      refine snk 5 #[.bool false, .slice none 0 0, .int .i64 0] 97 (fun V5 hbV5 hzV5 b5 => ?_)
      replace b3 := (b3.past hbV5)
      replace b2 := (b2.past hbV5)
      refine hKx.out _ _ ⟨b3, b2⟩ ?_
      clear hKx Kx
      refine sxr [3] ?_
      refine rd1 (fun Kx hKx => ?_)
      refine yck 9 (cwidth_any f V5) ?_
      rintro eV6 V6 ⟨rfl, hbV6⟩
      have hzV6 := hbV6.size
      refine ⟨_, rfl, ?_⟩
      replace b3 := (b3.past hbV6)
      replace b2 := (b2.past hbV6)
      refine hKx.out _ _ ⟨b3, b2⟩ ?_
      clear hKx Kx
      refine tk 6 12 (.int .i64 mw) ⟨b3, b2⟩ ?_ (hy := fun w' _ => ((show _ = Result.ok (Next.value (.int .i64 (IntKind.wrap .i64 (((wid f.g : Nat) : Int) * pw)))) _ by kernel_rfl).trans (congrArg (fun z => Result.ok (Next.value (.int .i64 z)) _) ((by rw [HMW.out]; exact IntWalk.i64_in _ (by omega))))))
      refine sxr [7] ?_
      refine rd1 (fun Kx hKx => ?_)
      replace hp := (hp.past (bthru (bthru (bthru (bthru (bthru hbV1 hbV2) hbV3) hbV4) hbV5) hbV6))
      replace hT := (hT.past (bthru (bthru (bthru (bthru (bthru hbV1 hbV2) hbV3) hbV4) hbV5) hbV6))
      refine yck 13 ((HW V6 hp hT).out) ?_
      rintro eV7 V7 ⟨p13, c13, rfl, o13, hbV7⟩
      have hzV7 := hbV7.size
      refine ⟨_, rfl, ?_⟩
      replace b3 := (b3.past hbV7)
      replace b2 := (b2.past hbV7)
      refine hKx.out _ _ ⟨b3, b2⟩ ?_
      clear hKx Kx
      refine sxr [9] ?_
      refine rd1 (fun Kx hKx => ?_)
      replace b5 := (b5.past (bthru hbV6 hbV7))
      refine ssk none b5 hT97 0 #[.bool d.neg, .slice p13 (dig B32 d.m).length c13, .int .i64 d.e] #[.bool d.neg, .slice p13 (dig B32 d.m).length c13, .int .i64 d.e] ?_
      have boV8 := b5
      clear b5
      intro V8 hOV8 b5
      have hzV8 := hOV8.size
      replace b3 := (b3.only hOV8 (by omega))
      replace b2 := (b2.only hOV8 (by omega))
      refine hKx.out _ _ ⟨b3, b2⟩ ?_
      clear hKx Kx
      refine sx_done (by kernel_rfl) ?_
      replace o13 := (o13.put boV8 hOV8 (by kernel_rfl))
      exact ⟨rfl, V4.heap.size, p13, c13, by kernel_rfl, b5, (o13.mono (by omega)), ((bthru (bthru (bthru hbV4 hbV5) hbV6) hbV7).trans (hOV8.below (by omega))), by omega⟩
    rintro _ V4 ⟨kb5, p13, c13, rfl, b5, o13, hbV4, hkb5⟩
    refine hGx _ _ ?_
    clear hGx Gx
    have hzV4 := hbV4.size
    have hlb5 := b5.lt
    refine sx_then ?_
    refine wp_seq ?_
    refine ye ?_
    replace b3 := (b3.past (bthru hbV3 hbV4))
    refine yl 1 rfl 15 b3 hT4 1 ?_
    refine yzt 0 ?_
    refine yF ?_
    refine wp_skip ?_
    refine sx_then ?_
    refine ye ?_
    refine yla 0 rfl 18 b5 hT97 0 ?_
    replace b4 := (b4.past hbV4)
    have boV5 := b4
    refine ysw 0 rfl b4 hT97 #[.bool d.neg, .slice p13 (dig B32 d.m).length c13, .int .i64 d.e] ?_
    clear b4
    intro V5 hOV5 b4
    have hzV5 := hOV5.size
    refine yzt 0 ?_
    refine wp_ret ?_
    repeat (first | with_reducible refine sx_thenret ?_ | with_reducible refine sx_blockret ?_)
    refine yret (.agg #[.bool d.neg, .slice p13 (dig B32 d.m).length c13, .int .i64 d.e]) (res1 Tryd.results71 (rvr b4 hT97)) ?_
    replace o13 := (o13.put boV5 hOV5 (by kernel_rfl))
    exact ⟨p13, c13, rfl, o13.mono (by omega), ((bthru (bthru (bthru hbV1 hbV2) hbV3) hbV4).trans (hOV5.below (by omega)))⟩
  | true =>
    rw [if_pos rfl]
    have hT3 : SxOne Tryd.prog 3 := sxOne_of (by kernel_rfl) (by kernel_rfl)
    have hT4 : SxOne Tryd.prog 4 := sxOne_of (by kernel_rfl) (by kernel_rfl)
    have hT23 : SxOne Tryd.prog 23 := sxOne_of (by kernel_rfl) (by kernel_rfl)
    have hT97 : SxAgg Tryd.prog 97 3 := sxAgg_of (by kernel_rfl) (by kernel_rfl)
    have hT116 : SxAgg Tryd.prog 116 12 := sxAgg_of (by kernel_rfl) (by kernel_rfl)
    refine calls_of_wp Tryd.func71 rfl ?_
    refine sx_frame (a' := ⟨((.agg #[.int .i64 ((f.size : Nat) : Int), .int .i64 ((f.E : Nat) : Int), .int .i64 ((f.F : Nat) : Int), .int .i64 f.g.rad, .int .i64 f.g.digs, .int .i64 f.g.lo, .int .i64 f.g.hi, .bool f.g.grad, .bool f.hid, .bool f.inf, .bool f.res, .func (.func (ordF f)) #[] #[]]) :: (.agg #[.int .i64 k, .bool true, .slice p (dig B32 m).length c, .int .i64 pw]) :: us 17 []).toArray, []⟩) (by kernel_rfl) ?_
    refine ye ?_
    refine yw 0 rfl 2 #[.int .i64 ((f.size : Nat) : Int), .int .i64 ((f.E : Nat) : Int), .int .i64 ((f.F : Nat) : Int), .int .i64 f.g.rad, .int .i64 f.g.digs, .int .i64 f.g.lo, .int .i64 f.g.hi, .bool f.g.grad, .bool f.hid, .bool f.inf, .bool f.res, .func (.func (ordF f)) #[] #[]] 116 (fun V1 hbV1 hzV1 b2 => ?_)
    refine yw 0 rfl 3 #[.int .i64 k, .bool true, .slice p (dig B32 m).length c, .int .i64 pw] 56 (fun V2 hbV2 hzV2 b3 => ?_)
    refine yw 0 rfl 4 #[.bool false, .slice none 0 0, .int .i64 0] 97 (fun V3 hbV3 hzV3 b4 => ?_)
    refine yzt 0 ?_
    refine wp_seq ?_
    refine sx_cutg (R := fun a' w' => ∃ (kb5 : Nat) (p13 : Option Addr) (c13 : Nat), a' = ⟨((.agg #[.int .i64 ((f.size : Nat) : Int), .int .i64 ((f.E : Nat) : Int), .int .i64 ((f.F : Nat) : Int), .int .i64 f.g.rad, .int .i64 f.g.digs, .int .i64 f.g.lo, .int .i64 f.g.hi, .bool f.g.grad, .bool f.hid, .bool f.inf, .bool f.res, .func (.func (ordF f)) #[] #[]]) :: (.agg #[.int .i64 k, .bool true, .slice p (dig B32 m).length c, .int .i64 pw]) :: (.pointer (some ⟨w.heap.size, 0, none⟩)) :: (.pointer (some ⟨V1.heap.size, 0, none⟩)) :: (.pointer (some ⟨V2.heap.size, 0, none⟩)) :: (.pointer (some ⟨kb5, 0, none⟩)) :: (.pointer (some ⟨V1.heap.size, 2, none⟩)) :: (.slice p (dig B32 m).length c) :: (.agg #[.int .i64 ((f.size : Nat) : Int), .int .i64 ((f.E : Nat) : Int), .int .i64 ((f.F : Nat) : Int), .int .i64 f.g.rad, .int .i64 f.g.digs, .int .i64 f.g.lo, .int .i64 f.g.hi, .bool f.g.grad, .bool f.hid, .bool f.inf, .bool f.res, .func (.func (ordF f)) #[] #[]]) :: (.int .i64 ((wid f.g : Nat) : Int)) :: (.pointer (some ⟨V1.heap.size, 3, none⟩)) :: (.int .i64 pw) :: (.int .i64 mw) :: (.agg #[.bool d.neg, .slice p13 (dig B32 d.m).length c13, .int .i64 d.e]) :: us 5 []).toArray, []⟩ ∧ Bt w' kb5 97 #[.bool d.neg, .slice p13 (dig B32 d.m).length c13, .int .i64 d.e] ∧ Own w' V3.heap.size .u32 91 p13 c13 (dig B32 d.m) ∧ Below V3.heap.size V3 w' ∧ V3.heap.size ≤ kb5) ?_ (fun Gx hGx => ?_)
    · skip
      replace b3 := (b3.past hbV3)
      replace b2 := (b2.past (bthru hbV2 hbV3))
      obtain ⟨V4, hVV4, hbV4, hzV4⟩ := drew_of V3
      replace b3 := (b3.past hbV4)
      replace b2 := (b2.past hbV4)
      refine yd2 hVV4 ⟨b3, b2⟩ ?_
      clear hVV4
      refine yt 9 [0] rfl ⟨b3, b2⟩ ?_
      refine ytl 1 rfl 7 (fun _ h => h.1) hT23 2 ⟨b3, b2⟩ ?_
      refine ytla 2 rfl 8 (fun _ h => h.2) hT116 0 ⟨b3, b2⟩ ?_
      refine yt 6 [4] rfl ⟨b3, b2⟩ ?_
      refine ytl 5 rfl 11 (fun _ h => h.1) hT3 3 ⟨b3, b2⟩ ?_
      refine sxr [3, 8] ?_
      refine rd2 (fun Kx hKx => ?_) ?_
      · skip
        refine yck 9 (cwidth_any f V4) ?_
        rintro eV5 V5 ⟨rfl, hbV5⟩
        have hzV5 := hbV5.size
        refine ⟨_, rfl, ?_⟩
        replace b3 := (b3.past hbV5)
        replace b2 := (b2.past hbV5)
        refine hKx.out _ _ ⟨b3, b2⟩ ?_
        clear hKx Kx
        refine tk 6 12 (.int .i64 mw) ⟨b3, b2⟩ ?_ (hy := fun w' _ => ((show _ = Result.ok (Next.value (.int .i64 (IntKind.wrap .i64 (((wid f.g : Nat) : Int) * pw)))) _ by kernel_rfl).trans (congrArg (fun z => Result.ok (Next.value (.int .i64 z)) _) ((by rw [HMW.out]; exact IntWalk.i64_in _ (by omega))))))
        refine sxr [7, 8] ?_
        refine rd2 (fun Kx hKx => ?_) ?_
        · skip
          replace hp := (hp.past (bthru (bthru (bthru (bthru hbV1 hbV2) hbV3) hbV4) hbV5))
          replace hT := (hT.past (bthru (bthru (bthru (bthru hbV1 hbV2) hbV3) hbV4) hbV5))
          refine yck 13 ((HW V5 hp hT).out) ?_
          rintro eV6 V6 ⟨p13, c13, rfl, o13, hbV6⟩
          have hzV6 := hbV6.size
          refine ⟨_, rfl, ?_⟩
          replace b3 := (b3.past hbV6)
          replace b2 := (b2.past hbV6)
          refine hKx.out _ _ ⟨b3, b2⟩ ?_
          clear hKx Kx
          refine sxr [8] ?_
          refine rd1 (fun Kx hKx => ?_)
          refine snk 5 #[.bool false, .slice none 0 0, .int .i64 0] 97 (fun V7 hbV7 hzV7 b5 => ?_)
          replace b3 := (b3.past hbV7)
          replace b2 := (b2.past hbV7)
          refine hKx.out _ _ ⟨b3, b2⟩ ?_
          clear hKx Kx
          refine sxr [9] ?_
          refine rd1 (fun Kx hKx => ?_)
          refine ssk none b5 hT97 0 #[.bool d.neg, .slice p13 (dig B32 d.m).length c13, .int .i64 d.e] #[.bool d.neg, .slice p13 (dig B32 d.m).length c13, .int .i64 d.e] ?_
          have boV8 := b5
          clear b5
          intro V8 hOV8 b5
          have hzV8 := hOV8.size
          replace b3 := (b3.only hOV8 (by omega))
          replace b2 := (b2.only hOV8 (by omega))
          refine hKx.out _ _ ⟨b3, b2⟩ ?_
          clear hKx Kx
          refine sx_done (by kernel_rfl) ?_
          replace o13 := (o13.past (hbV7.trans (hOV8.below (by omega))))
          exact ⟨rfl, V6.heap.size, p13, c13, by kernel_rfl, b5, (o13.mono (by omega)), ((bthru (bthru (bthru hbV4 hbV5) hbV6) hbV7).trans (hOV8.below (by omega))), by omega⟩
        refine rd1 (fun Kx hKx => ?_)
        refine snk 5 #[.bool false, .slice none 0 0, .int .i64 0] 97 (fun V6 hbV6 hzV6 b5 => ?_)
        replace b3 := (b3.past hbV6)
        replace b2 := (b2.past hbV6)
        refine hKx.out _ _ ⟨b3, b2⟩ ?_
        clear hKx Kx
        refine sxr [7] ?_
        refine rd1 (fun Kx hKx => ?_)
        replace hp := (hp.past (bthru (bthru (bthru (bthru (bthru hbV1 hbV2) hbV3) hbV4) hbV5) hbV6))
        replace hT := (hT.past (bthru (bthru (bthru (bthru (bthru hbV1 hbV2) hbV3) hbV4) hbV5) hbV6))
        refine yck 13 ((HW V6 hp hT).out) ?_
        rintro eV7 V7 ⟨p13, c13, rfl, o13, hbV7⟩
        have hzV7 := hbV7.size
        refine ⟨_, rfl, ?_⟩
        replace b3 := (b3.past hbV7)
        replace b2 := (b2.past hbV7)
        refine hKx.out _ _ ⟨b3, b2⟩ ?_
        clear hKx Kx
        refine sxr [9] ?_
        refine rd1 (fun Kx hKx => ?_)
        replace b5 := (b5.past hbV7)
        refine ssk none b5 hT97 0 #[.bool d.neg, .slice p13 (dig B32 d.m).length c13, .int .i64 d.e] #[.bool d.neg, .slice p13 (dig B32 d.m).length c13, .int .i64 d.e] ?_
        have boV8 := b5
        clear b5
        intro V8 hOV8 b5
        have hzV8 := hOV8.size
        replace b3 := (b3.only hOV8 (by omega))
        replace b2 := (b2.only hOV8 (by omega))
        refine hKx.out _ _ ⟨b3, b2⟩ ?_
        clear hKx Kx
        refine sx_done (by kernel_rfl) ?_
        replace o13 := (o13.put boV8 hOV8 (by kernel_rfl))
        exact ⟨rfl, V5.heap.size, p13, c13, by kernel_rfl, b5, (o13.mono (by omega)), ((bthru (bthru (bthru hbV4 hbV5) hbV6) hbV7).trans (hOV8.below (by omega))), by omega⟩
      refine rd1 (fun Kx hKx => ?_)
      refine snk 5 #[.bool false, .slice none 0 0, .int .i64 0] 97 (fun V5 hbV5 hzV5 b5 => ?_)
      replace b3 := (b3.past hbV5)
      replace b2 := (b2.past hbV5)
      refine hKx.out _ _ ⟨b3, b2⟩ ?_
      clear hKx Kx
      refine sxr [3] ?_
      refine rd1 (fun Kx hKx => ?_)
      refine yck 9 (cwidth_any f V5) ?_
      rintro eV6 V6 ⟨rfl, hbV6⟩
      have hzV6 := hbV6.size
      refine ⟨_, rfl, ?_⟩
      replace b3 := (b3.past hbV6)
      replace b2 := (b2.past hbV6)
      refine hKx.out _ _ ⟨b3, b2⟩ ?_
      clear hKx Kx
      refine tk 6 12 (.int .i64 mw) ⟨b3, b2⟩ ?_ (hy := fun w' _ => ((show _ = Result.ok (Next.value (.int .i64 (IntKind.wrap .i64 (((wid f.g : Nat) : Int) * pw)))) _ by kernel_rfl).trans (congrArg (fun z => Result.ok (Next.value (.int .i64 z)) _) ((by rw [HMW.out]; exact IntWalk.i64_in _ (by omega))))))
      refine sxr [7] ?_
      refine rd1 (fun Kx hKx => ?_)
      replace hp := (hp.past (bthru (bthru (bthru (bthru (bthru hbV1 hbV2) hbV3) hbV4) hbV5) hbV6))
      replace hT := (hT.past (bthru (bthru (bthru (bthru (bthru hbV1 hbV2) hbV3) hbV4) hbV5) hbV6))
      refine yck 13 ((HW V6 hp hT).out) ?_
      rintro eV7 V7 ⟨p13, c13, rfl, o13, hbV7⟩
      have hzV7 := hbV7.size
      refine ⟨_, rfl, ?_⟩
      replace b3 := (b3.past hbV7)
      replace b2 := (b2.past hbV7)
      refine hKx.out _ _ ⟨b3, b2⟩ ?_
      clear hKx Kx
      refine sxr [9] ?_
      refine rd1 (fun Kx hKx => ?_)
      replace b5 := (b5.past (bthru hbV6 hbV7))
      refine ssk none b5 hT97 0 #[.bool d.neg, .slice p13 (dig B32 d.m).length c13, .int .i64 d.e] #[.bool d.neg, .slice p13 (dig B32 d.m).length c13, .int .i64 d.e] ?_
      have boV8 := b5
      clear b5
      intro V8 hOV8 b5
      have hzV8 := hOV8.size
      replace b3 := (b3.only hOV8 (by omega))
      replace b2 := (b2.only hOV8 (by omega))
      refine hKx.out _ _ ⟨b3, b2⟩ ?_
      clear hKx Kx
      refine sx_done (by kernel_rfl) ?_
      replace o13 := (o13.put boV8 hOV8 (by kernel_rfl))
      exact ⟨rfl, V4.heap.size, p13, c13, by kernel_rfl, b5, (o13.mono (by omega)), ((bthru (bthru (bthru hbV4 hbV5) hbV6) hbV7).trans (hOV8.below (by omega))), by omega⟩
    rintro _ V4 ⟨kb5, p13, c13, rfl, b5, o13, hbV4, hkb5⟩
    refine hGx _ _ ?_
    clear hGx Gx
    have hzV4 := hbV4.size
    have hlb5 := b5.lt
    refine sx_then ?_
    refine wp_seq ?_
    refine ye ?_
    replace b3 := (b3.past (bthru hbV3 hbV4))
    refine yl 1 rfl 15 b3 hT4 1 ?_
    refine yzt 0 ?_
    refine yT ?_
    refine sx_region ?_
    refine yla 0 rfl 16 b5 hT97 0 ?_
    refine yc 0 rfl 17 (opp_any d.neg p13 _ c13 d.e d.m V4 rfl) (fun Gx hGx => ?_)
    rintro eV5 V5 ⟨rfl, hbV5⟩
    have hzV5 := hbV5.size
    refine ⟨_, rfl, hGx _ _ ?_⟩
    clear hGx Gx
    replace b5 := (b5.past hbV5)
    have boV6 := b5
    refine ysw 0 rfl b5 hT97 #[.bool ((dMinus d).neg), .slice p13 (dig B32 (dMinus d).m).length c13, .int .i64 ((dMinus d).e)] ?_
    clear b5
    intro V6 hOV6 b5
    have hzV6 := hOV6.size
    refine yz 0 ?_
    refine sx_then ?_
    refine ye ?_
    refine yla 0 rfl 18 b5 hT97 0 ?_
    replace b4 := (b4.past ((bthru hbV4 hbV5).trans (hOV6.below (by omega))))
    have boV7 := b4
    refine ysw 0 rfl b4 hT97 #[.bool ((dMinus d).neg), .slice p13 (dig B32 (dMinus d).m).length c13, .int .i64 ((dMinus d).e)] ?_
    clear b4
    intro V7 hOV7 b4
    have hzV7 := hOV7.size
    refine yzt 0 ?_
    refine wp_ret ?_
    repeat (first | with_reducible refine sx_thenret ?_ | with_reducible refine sx_blockret ?_)
    refine yret (.agg #[.bool ((dMinus d).neg), .slice p13 (dig B32 (dMinus d).m).length c13, .int .i64 ((dMinus d).e)]) (res1 Tryd.results71 (rvr b4 hT97)) ?_
    replace o13 := (((o13.past hbV5).put boV6 hOV6 (by kernel_rfl)).put boV7 hOV7 (by kernel_rfl))
    exact ⟨p13, c13, rfl, o13.mono (by omega), (((bthru (bthru (bthru (bthru hbV1 hbV2) hbV3) hbV4) hbV5).trans (hOV6.below (by omega))).trans (hOV7.below (by omega)))⟩

theorem join_int (f : Fm) (g : Bool) (E : Int) (e x : Nat) (hE : E = e) (p : Option Addr) (c : Nat) (w : World) (G : GoodF f) (hp : Rd w .u32 p (dig B32 x)) (he : e < 2 ^ f.E) (hx : x < 2 ^ f.F) :
    Calls Tryd.prog 75 #[.agg #[.int .i64 ((f.size : Nat) : Int), .int .i64 ((f.E : Nat) : Int), .int .i64 ((f.F : Nat) : Int), .int .i64 f.g.rad, .int .i64 f.g.digs, .int .i64 f.g.lo, .int .i64 f.g.hi, .bool f.g.grad, .bool f.hid, .bool f.inf, .bool f.res, .func (.func (ordF f)) #[] #[]], .agg #[.bool g, .int .i64 E, .slice p (dig B32 x).length c]] w fun en w' => en = .returned (.string (strOf (f.str g e x))) ∧ Below w.heap.size w w' := by
  subst hE
  exact join_any f g e x p c w G hp he hx
theorem two_len {F : Nat} (h : F ≤ 64) : (dig B32 (2 ^ F)).length ≤ 3 := dig_le_pow (n := F + 1) (Nat.pow_lt_pow_right (by omega) (by omega)) (by omega)

set_option maxHeartbeats 1000000 in
set_option maxRecDepth 100000 in
theorem number_any (f : Fm) (d : Dv) (p : Option Addr) (c : Nat) (w : World) (G : GoodF f) (hp : Rd w .u32 p (dig B32 d.m)) (hl : (dig B32 d.m).length ≤ 1200) (he : -60000 ≤ d.e ∧ d.e ≤ 60000) (hin : inGridD d f.g = true) (h0 : d.m ≠ 0) :
    Calls Tryd.prog 72 #[.agg #[.int .i64 ((f.size : Nat) : Int), .int .i64 ((f.E : Nat) : Int), .int .i64 ((f.F : Nat) : Int), .int .i64 f.g.rad, .int .i64 f.g.digs, .int .i64 f.g.lo, .int .i64 f.g.hi, .bool f.g.grad, .bool f.hid, .bool f.inf, .bool f.res, .func (.func (ordF f)) #[] #[]], .agg #[.bool d.neg, .slice p (dig B32 d.m).length c, .int .i64 d.e]] w fun en w' => en = .returned (.string (strOf (f.strP (f.numP d)))) ∧ Below w.heap.size w w' := by
  have hg := goodG_of G.g
  have N := numF_of G hin h0
  have hlt := numP_lt G N
  obtain ⟨s, m, e⟩ := d
  simp only at h0 hl he hp
  have hd1 := hg.d1
  have hd2 := hg.d2
  have hl1 : (dig B32 1).length ≤ 1 := by rw [dig_len_le B32_two]; unfold B32; omega
  obtain ⟨f1, f2, f3⟩ := fit_step hg hin h0
  have f4 := f2 f3
  have hq : qP m 1 (e - wid f.g * stepK ⟨s, m, e⟩ f.g) = f.fr ⟨s, m, e⟩ := by
    have := N.e0
    simp only at this
    unfold qP numP denP Fm.fr
    rw [show (-(e - wid f.g * stepK ⟨s, m, e⟩ f.g)).toNat = 0 by omega, Nat.pow_zero, Nat.mul_one, Nat.div_one]
  rw [hq] at f1
  have hK := isK_one (show 0 < m by omega) e (w := wid f.g) (D := f.g.digs.toNat) (wid_pos f.g).1 (by omega)
  have HF := fun W q d (h1 : Rd W .u32 p (dig B32 m)) (h2 : Rd W .u32 q (dig B32 1)) => Lib.hid (fit_any s p q c d m 1 e f.g 3 _ W h1 h2 (by omega) (by omega) (by omega) (by omega) (by omega) hg (by omega) (by omega) hK)
  have hlow := N.low
  have hbl := N.bl
  have hk1 := N.k1
  have hk2 := N.k2
  have hfl : (dig B32 (f.fr ⟨s, m, e⟩)).length ≤ 16 := dig_le_pow N.lt (k := 16) (by have := Nat.mul_le_mul (wid_pos f.g).2 (show f.g.digs.toNat ≤ 120 by omega); omega)
  have hnp : f.numP ⟨s, m, e⟩ = if f.fam = 2 then ⟨s, (stepK ⟨s, m, e⟩ f.g - f.g.lo).toNat, f.fr ⟨s, m, e⟩⟩
    else if (blen (f.fr ⟨s, m, e⟩) : Int) = f.g.digs then ⟨s, (stepK ⟨s, m, e⟩ f.g - f.g.lo).toNat + 1, if f.ext then f.fr ⟨s, m, e⟩ else f.fr ⟨s, m, e⟩ - 2 ^ f.F⟩
    else ⟨s, (stepK ⟨s, m, e⟩ f.g - f.g.lo).toNat, f.fr ⟨s, m, e⟩⟩ := rfl
  rw [hnp] at hlt ⊢
  clear hnp N
  generalize f.fr ⟨s, m, e⟩ = X at *
  generalize stepK ⟨s, m, e⟩ f.g = K at *
  generalize fitK s m 1 e f.g 3 ((e + blen m - 1) / wid f.g - f.g.digs.toNat + 1) = pf at *
  obtain ⟨pn, pd, pp, pex, pov, pun⟩ := pf
  simp only at f1 f4
  subst f1 f4
  clear hK f2 f3 hq
  have z5 := G.lo
  have z6 := G.hi
  have hr := G.rad
  have hw := G.w
  have HJ := fun (W : World) (g : Bool) (e x : Nat) (p : Option Addr) (c : Nat) h h1 h2 => Lib.hid (join_any f g e x p c W G h h1 h2)
  unfold Fm.strP
  by_cases hf : f.fam = 2
  · rw [if_pos hf] at hr hw hlt ⊢
    simp only at hlt ⊢
    have hei : ((pp - f.g.lo).toNat : Int) = pp - f.g.lo := by omega
    generalize (pp - f.g.lo).toNat = e1 at *
    have hT3 : SxOne Tryd.prog 3 := sxOne_of (by kernel_rfl) (by kernel_rfl)
    have hT4 : SxOne Tryd.prog 4 := sxOne_of (by kernel_rfl) (by kernel_rfl)
    have hT23 : SxOne Tryd.prog 23 := sxOne_of (by kernel_rfl) (by kernel_rfl)
    have hT29 : SxAgg Tryd.prog 29 5 := sxAgg_of (by kernel_rfl) (by kernel_rfl)
    have hT50 : SxAgg Tryd.prog 50 6 := sxAgg_of (by kernel_rfl) (by kernel_rfl)
    have hT116 : SxAgg Tryd.prog 116 12 := sxAgg_of (by kernel_rfl) (by kernel_rfl)
    refine calls_of_wp Tryd.func72 rfl ?_
    refine sx_frame (a' := ⟨((.agg #[.int .i64 ((f.size : Nat) : Int), .int .i64 ((f.E : Nat) : Int), .int .i64 ((f.F : Nat) : Int), .int .i64 f.g.rad, .int .i64 f.g.digs, .int .i64 f.g.lo, .int .i64 f.g.hi, .bool f.g.grad, .bool f.hid, .bool f.inf, .bool f.res, .func (.func (ordF f)) #[] #[]]) :: (.agg #[.bool s, .slice p (dig B32 m).length c, .int .i64 e]) :: us 55 []).toArray, []⟩) (by kernel_rfl) ?_
    refine ye ?_
    refine yw 0 rfl 2 #[.int .i64 ((f.size : Nat) : Int), .int .i64 ((f.E : Nat) : Int), .int .i64 ((f.F : Nat) : Int), .int .i64 f.g.rad, .int .i64 f.g.digs, .int .i64 f.g.lo, .int .i64 f.g.hi, .bool f.g.grad, .bool f.hid, .bool f.inf, .bool f.res, .func (.func (ordF f)) #[] #[]] 116 (fun V1 hbV1 hzV1 b2 => ?_)
    refine yw 0 rfl 3 #[.bool s, .slice p (dig B32 m).length c, .int .i64 e] 97 (fun V2 hbV2 hzV2 b3 => ?_)
    refine yzt 1 ?_
    refine wp_seq ?_
    refine sx_cutg (R := fun a' w' => ∃ (kb5 : Nat) (p14 : Option Addr) (c14 : Nat) (p21 : Option Addr) (c21 : Nat), a' = ⟨((.agg #[.int .i64 ((f.size : Nat) : Int), .int .i64 ((f.E : Nat) : Int), .int .i64 ((f.F : Nat) : Int), .int .i64 f.g.rad, .int .i64 f.g.digs, .int .i64 f.g.lo, .int .i64 f.g.hi, .bool f.g.grad, .bool f.hid, .bool f.inf, .bool f.res, .func (.func (ordF f)) #[] #[]]) :: (.agg #[.bool s, .slice p (dig B32 m).length c, .int .i64 e]) :: (.pointer (some ⟨w.heap.size, 0, none⟩)) :: (.pointer (some ⟨V1.heap.size, 0, none⟩)) :: (Go.Value.string (ByteArray.mk #[])) :: (.pointer (some ⟨kb5, 0, none⟩)) :: us 2 ((.pointer (some ⟨V1.heap.size, 0, none⟩)) :: (.pointer (some ⟨V1.heap.size, 0, none⟩)) :: (.bool s) :: (.pointer (some ⟨V1.heap.size, 0, none⟩)) :: (.pointer (some ⟨V1.heap.size, 1, none⟩)) :: (.slice p (dig B32 m).length c) :: (.slice p14 (dig B32 1).length c14) :: (.pointer (some ⟨V1.heap.size, 0, none⟩)) :: (.pointer (some ⟨V1.heap.size, 2, none⟩)) :: (.int .i64 e) :: (.agg #[.bool s, .slice p (dig B32 m).length c, .slice p14 (dig B32 1).length c14, .int .i64 e]) :: (.pointer (some ⟨w.heap.size, 3, none⟩)) :: (.agg #[.int .i64 f.g.rad, .int .i64 f.g.digs, .int .i64 f.g.lo, .int .i64 f.g.hi, .bool f.g.grad]) :: (.agg #[.bool pn, .slice p21 (dig B32 pd).length c21, .int .i64 pp, .bool pex, .bool pov, .bool pun]) :: us 35 [])).toArray, []⟩ ∧ Bt w' kb5 50 #[.bool pn, .slice p21 (dig B32 pd).length c21, .int .i64 pp, .bool pex, .bool pov, .bool pun] ∧ Own w' V2.heap.size .u32 91 p14 c14 (dig B32 1) ∧ Own w' V2.heap.size .u32 91 p21 c21 (dig B32 pd) ∧ Below V2.heap.size V2 w' ∧ V2.heap.size ≤ kb5) ?_ (fun Gx hGx => ?_)
    · skip
      replace b2 := (b2.past hbV2)
      obtain ⟨V3, hVV3, hbV3, hzV3⟩ := drew_of V2
      replace b3 := (b3.past hbV3)
      replace b2 := (b2.past hbV3)
      refine yd2 hVV3 ⟨b3, b2⟩ ?_
      clear hVV3
      refine yt 14 [0, 1] rfl ⟨b3, b2⟩ ?_
      refine ytl 2 rfl 10 (fun _ h => h.1) hT4 0 ⟨b3, b2⟩ ?_
      refine yt 11 [3, 4] rfl ⟨b3, b2⟩ ?_
      refine ytl 5 rfl 13 (fun _ h => h.1) hT23 1 ⟨b3, b2⟩ ?_
      refine yt 8 [7, 8] rfl ⟨b3, b2⟩ ?_
      refine ytl 9 rfl 17 (fun _ h => h.1) hT3 2 ⟨b3, b2⟩ ?_
      refine yt 6 [11] rfl ⟨b3, b2⟩ ?_
      refine ytla 12 rfl 20 (fun _ h => h.2) hT29 3 ⟨b3, b2⟩ ?_
      refine sxr [6, 14] ?_
      refine rd2 (fun Kx hKx => ?_) ?_
      · skip
        refine yck 14 (sof 1 1 rfl (by omega) V3) ?_
        rintro eV4 V4 ⟨p14, c14, rfl, o14, hbV4⟩
        have hzV4 := hbV4.size
        refine ⟨_, rfl, ?_⟩
        replace b3 := (b3.past hbV4)
        replace b2 := (b2.past hbV4)
        refine hKx.out _ _ ⟨b3, b2⟩ ?_
        clear hKx Kx
        refine yt 3 [10] rfl ⟨b3, b2⟩ ?_
        refine sxr [13, 14] ?_
        refine rd2 (fun Kx hKx => ?_) ?_
        · skip
          replace hp := (hp.past (bthru (bthru (bthru hbV1 hbV2) hbV3) hbV4))
          refine yck 21 ((HF V4 p14 c14 hp o14.rd).out) ?_
          rintro eV5 V5 ⟨p21, c21, rfl, o21, hbV5⟩
          have hzV5 := hbV5.size
          refine ⟨_, rfl, ?_⟩
          replace b3 := (b3.past hbV5)
          replace b2 := (b2.past hbV5)
          refine hKx.out _ _ ⟨b3, b2⟩ ?_
          clear hKx Kx
          refine sxr [14] ?_
          refine rd1 (fun Kx hKx => ?_)
          refine snk 5 #[.bool false, .slice none 0 0, .int .i64 0, .bool false, .bool false, .bool false] 50 (fun V6 hbV6 hzV6 b5 => ?_)
          replace b3 := (b3.past hbV6)
          replace b2 := (b2.past hbV6)
          refine hKx.out _ _ ⟨b3, b2⟩ ?_
          clear hKx Kx
          refine sxr [15] ?_
          refine rd1 (fun Kx hKx => ?_)
          refine ssk none b5 hT50 0 #[.bool pn, .slice p21 (dig B32 pd).length c21, .int .i64 pp, .bool pex, .bool pov, .bool pun] #[.bool pn, .slice p21 (dig B32 pd).length c21, .int .i64 pp, .bool pex, .bool pov, .bool pun] ?_
          have boV7 := b5
          clear b5
          intro V7 hOV7 b5
          have hzV7 := hOV7.size
          replace b3 := (b3.only hOV7 (by omega))
          replace b2 := (b2.only hOV7 (by omega))
          refine hKx.out _ _ ⟨b3, b2⟩ ?_
          clear hKx Kx
          refine sx_done (by kernel_rfl) ?_
          replace o14 := (o14.past ((bthru hbV5 hbV6).trans (hOV7.below (by omega))))
          replace o21 := (o21.past (hbV6.trans (hOV7.below (by omega))))
          exact ⟨rfl, V5.heap.size, p14, c14, p21, c21, by kernel_rfl, b5, (o14.mono (by omega)), (o21.mono (by omega)), ((bthru (bthru (bthru hbV3 hbV4) hbV5) hbV6).trans (hOV7.below (by omega))), by omega⟩
        refine rd1 (fun Kx hKx => ?_)
        refine snk 5 #[.bool false, .slice none 0 0, .int .i64 0, .bool false, .bool false, .bool false] 50 (fun V5 hbV5 hzV5 b5 => ?_)
        replace b3 := (b3.past hbV5)
        replace b2 := (b2.past hbV5)
        refine hKx.out _ _ ⟨b3, b2⟩ ?_
        clear hKx Kx
        refine sxr [13] ?_
        refine rd1 (fun Kx hKx => ?_)
        replace hp := (hp.past (bthru (bthru (bthru (bthru hbV1 hbV2) hbV3) hbV4) hbV5))
        replace o14 := (o14.past hbV5)
        refine yck 21 ((HF V5 p14 c14 hp o14.rd).out) ?_
        rintro eV6 V6 ⟨p21, c21, rfl, o21, hbV6⟩
        have hzV6 := hbV6.size
        refine ⟨_, rfl, ?_⟩
        replace b3 := (b3.past hbV6)
        replace b2 := (b2.past hbV6)
        refine hKx.out _ _ ⟨b3, b2⟩ ?_
        clear hKx Kx
        refine sxr [15] ?_
        refine rd1 (fun Kx hKx => ?_)
        replace b5 := (b5.past hbV6)
        refine ssk none b5 hT50 0 #[.bool pn, .slice p21 (dig B32 pd).length c21, .int .i64 pp, .bool pex, .bool pov, .bool pun] #[.bool pn, .slice p21 (dig B32 pd).length c21, .int .i64 pp, .bool pex, .bool pov, .bool pun] ?_
        have boV7 := b5
        clear b5
        intro V7 hOV7 b5
        have hzV7 := hOV7.size
        replace b3 := (b3.only hOV7 (by omega))
        replace b2 := (b2.only hOV7 (by omega))
        refine hKx.out _ _ ⟨b3, b2⟩ ?_
        clear hKx Kx
        refine sx_done (by kernel_rfl) ?_
        replace o14 := ((o14.past hbV6).put boV7 hOV7 (by kernel_rfl))
        replace o21 := (o21.put boV7 hOV7 (by kernel_rfl))
        exact ⟨rfl, V4.heap.size, p14, c14, p21, c21, by kernel_rfl, b5, (o14.mono (by omega)), (o21.mono (by omega)), ((bthru (bthru (bthru hbV3 hbV4) hbV5) hbV6).trans (hOV7.below (by omega))), by omega⟩
      refine rd1 (fun Kx hKx => ?_)
      refine snk 5 #[.bool false, .slice none 0 0, .int .i64 0, .bool false, .bool false, .bool false] 50 (fun V4 hbV4 hzV4 b5 => ?_)
      replace b3 := (b3.past hbV4)
      replace b2 := (b2.past hbV4)
      refine hKx.out _ _ ⟨b3, b2⟩ ?_
      clear hKx Kx
      refine sxr [6] ?_
      refine rd1 (fun Kx hKx => ?_)
      refine yck 14 (sof 1 1 rfl (by omega) V4) ?_
      rintro eV5 V5 ⟨p14, c14, rfl, o14, hbV5⟩
      have hzV5 := hbV5.size
      refine ⟨_, rfl, ?_⟩
      replace b3 := (b3.past hbV5)
      replace b2 := (b2.past hbV5)
      refine hKx.out _ _ ⟨b3, b2⟩ ?_
      clear hKx Kx
      refine yt 2 [10] rfl ⟨b3, b2⟩ ?_
      refine sxr [13] ?_
      refine rd1 (fun Kx hKx => ?_)
      replace hp := (hp.past (bthru (bthru (bthru (bthru hbV1 hbV2) hbV3) hbV4) hbV5))
      refine yck 21 ((HF V5 p14 c14 hp o14.rd).out) ?_
      rintro eV6 V6 ⟨p21, c21, rfl, o21, hbV6⟩
      have hzV6 := hbV6.size
      refine ⟨_, rfl, ?_⟩
      replace b3 := (b3.past hbV6)
      replace b2 := (b2.past hbV6)
      refine hKx.out _ _ ⟨b3, b2⟩ ?_
      clear hKx Kx
      refine sxr [15] ?_
      refine rd1 (fun Kx hKx => ?_)
      replace b5 := (b5.past (bthru hbV5 hbV6))
      refine ssk none b5 hT50 0 #[.bool pn, .slice p21 (dig B32 pd).length c21, .int .i64 pp, .bool pex, .bool pov, .bool pun] #[.bool pn, .slice p21 (dig B32 pd).length c21, .int .i64 pp, .bool pex, .bool pov, .bool pun] ?_
      have boV7 := b5
      clear b5
      intro V7 hOV7 b5
      have hzV7 := hOV7.size
      replace b3 := (b3.only hOV7 (by omega))
      replace b2 := (b2.only hOV7 (by omega))
      refine hKx.out _ _ ⟨b3, b2⟩ ?_
      clear hKx Kx
      refine sx_done (by kernel_rfl) ?_
      replace o14 := ((o14.past hbV6).put boV7 hOV7 (by kernel_rfl))
      replace o21 := (o21.put boV7 hOV7 (by kernel_rfl))
      exact ⟨rfl, V3.heap.size, p14, c14, p21, c21, by kernel_rfl, b5, (o14.mono (by omega)), (o21.mono (by omega)), ((bthru (bthru (bthru hbV3 hbV4) hbV5) hbV6).trans (hOV7.below (by omega))), by omega⟩
    rintro _ V3 ⟨kb5, p14, c14, p21, c21, rfl, b5, o14, o21, hbV3, hkb5⟩
    refine hGx _ _ ?_
    clear hGx Gx
    have hzV3 := hbV3.size
    have hlb5 := b5.lt
    refine sx_then ?_
    refine ye ?_
    refine yl 1 rfl 23 b5 hT3 2 ?_
    replace b2 := (b2.past (bthru hbV2 hbV3))
    refine yl 2 rfl 26 b2 hT3 5 ?_
    refine ya 0 rfl 27 .i64 (pp - f.g.lo) (((e1 : Nat) : Int)) ((by rw [hei]; exact IntWalk.i64_in _ (by omega))) ?_
    refine yzt 1 ?_
    refine ye ?_
    refine yl 1 rfl 29 b5 hT23 1 ?_
    refine yzt 1 ?_
    refine wp_seq ?_
    refine ye ?_
    refine yl 2 rfl 32 b2 hT3 3 ?_
    refine yb 0 rfl 33 (f.g.rad == 2) (false) (by rw [hr]; rfl) ?_
    refine yzt 0 ?_
    refine yF ?_
    refine wp_skip ?_
    refine sx_then ?_
    refine ye ?_
    refine yla 0 rfl 49 b2 hT116 0 ?_
    replace b3 := (b3.past hbV3)
    refine yl 2 rfl 52 b3 hT4 0 ?_
    refine yc 3 rfl 56 ((HJ V3 s e1 pd p21 c21 o21.rd hlt.1 hlt.2).out) (fun Gx hGx => ?_)
    rintro eV4 V4 ⟨rfl, hbV4⟩
    have hzV4 := hbV4.size
    refine ⟨_, rfl, hGx _ _ ?_⟩
    clear hGx Gx
    refine yzt 1 ?_
    refine wp_ret ?_
    repeat (first | with_reducible refine sx_thenret ?_ | with_reducible refine sx_blockret ?_)
    refine yret (.string (strOf (f.str s e1 pd))) (res1 Tryd.results72 rvt) ?_
    exact ⟨rfl, (bthru (bthru (bthru hbV1 hbV2) hbV3) hbV4)⟩
  · rw [if_neg hf] at hr hw hlt ⊢
    rw [hw] at hbl
    by_cases hb : (blen pd : Int) = f.g.digs
    · rw [if_pos hb] at hlt ⊢
      simp only at hlt ⊢
      have hei : (((pp - f.g.lo).toNat + 1 : Nat) : Int) = pp - f.g.lo + 1 := by omega
      generalize (pp - f.g.lo).toNat + 1 = e1 at *
      by_cases hx : f.ext = true
      · rw [if_pos hx] at hlt ⊢
        have hh : f.hid = false := by unfold Fm.hid; rw [hx]; simp
        have hT3 : SxOne Tryd.prog 3 := sxOne_of (by kernel_rfl) (by kernel_rfl)
        have hT4 : SxOne Tryd.prog 4 := sxOne_of (by kernel_rfl) (by kernel_rfl)
        have hT23 : SxOne Tryd.prog 23 := sxOne_of (by kernel_rfl) (by kernel_rfl)
        have hT29 : SxAgg Tryd.prog 29 5 := sxAgg_of (by kernel_rfl) (by kernel_rfl)
        have hT50 : SxAgg Tryd.prog 50 6 := sxAgg_of (by kernel_rfl) (by kernel_rfl)
        have hT116 : SxAgg Tryd.prog 116 12 := sxAgg_of (by kernel_rfl) (by kernel_rfl)
        refine calls_of_wp Tryd.func72 rfl ?_
        refine sx_frame (a' := ⟨((.agg #[.int .i64 ((f.size : Nat) : Int), .int .i64 ((f.E : Nat) : Int), .int .i64 ((f.F : Nat) : Int), .int .i64 f.g.rad, .int .i64 f.g.digs, .int .i64 f.g.lo, .int .i64 f.g.hi, .bool f.g.grad, .bool f.hid, .bool f.inf, .bool f.res, .func (.func (ordF f)) #[] #[]]) :: (.agg #[.bool s, .slice p (dig B32 m).length c, .int .i64 e]) :: us 55 []).toArray, []⟩) (by kernel_rfl) ?_
        refine ye ?_
        refine yw 0 rfl 2 #[.int .i64 ((f.size : Nat) : Int), .int .i64 ((f.E : Nat) : Int), .int .i64 ((f.F : Nat) : Int), .int .i64 f.g.rad, .int .i64 f.g.digs, .int .i64 f.g.lo, .int .i64 f.g.hi, .bool f.g.grad, .bool f.hid, .bool f.inf, .bool f.res, .func (.func (ordF f)) #[] #[]] 116 (fun V1 hbV1 hzV1 b2 => ?_)
        refine yw 0 rfl 3 #[.bool s, .slice p (dig B32 m).length c, .int .i64 e] 97 (fun V2 hbV2 hzV2 b3 => ?_)
        refine yzt 1 ?_
        refine wp_seq ?_
        refine sx_cutg (R := fun a' w' => ∃ (kb5 : Nat) (p14 : Option Addr) (c14 : Nat) (p21 : Option Addr) (c21 : Nat), a' = ⟨((.agg #[.int .i64 ((f.size : Nat) : Int), .int .i64 ((f.E : Nat) : Int), .int .i64 ((f.F : Nat) : Int), .int .i64 f.g.rad, .int .i64 f.g.digs, .int .i64 f.g.lo, .int .i64 f.g.hi, .bool f.g.grad, .bool f.hid, .bool f.inf, .bool f.res, .func (.func (ordF f)) #[] #[]]) :: (.agg #[.bool s, .slice p (dig B32 m).length c, .int .i64 e]) :: (.pointer (some ⟨w.heap.size, 0, none⟩)) :: (.pointer (some ⟨V1.heap.size, 0, none⟩)) :: (Go.Value.string (ByteArray.mk #[])) :: (.pointer (some ⟨kb5, 0, none⟩)) :: us 2 ((.pointer (some ⟨V1.heap.size, 0, none⟩)) :: (.pointer (some ⟨V1.heap.size, 0, none⟩)) :: (.bool s) :: (.pointer (some ⟨V1.heap.size, 0, none⟩)) :: (.pointer (some ⟨V1.heap.size, 1, none⟩)) :: (.slice p (dig B32 m).length c) :: (.slice p14 (dig B32 1).length c14) :: (.pointer (some ⟨V1.heap.size, 0, none⟩)) :: (.pointer (some ⟨V1.heap.size, 2, none⟩)) :: (.int .i64 e) :: (.agg #[.bool s, .slice p (dig B32 m).length c, .slice p14 (dig B32 1).length c14, .int .i64 e]) :: (.pointer (some ⟨w.heap.size, 3, none⟩)) :: (.agg #[.int .i64 f.g.rad, .int .i64 f.g.digs, .int .i64 f.g.lo, .int .i64 f.g.hi, .bool f.g.grad]) :: (.agg #[.bool pn, .slice p21 (dig B32 pd).length c21, .int .i64 pp, .bool pex, .bool pov, .bool pun]) :: us 35 [])).toArray, []⟩ ∧ Bt w' kb5 50 #[.bool pn, .slice p21 (dig B32 pd).length c21, .int .i64 pp, .bool pex, .bool pov, .bool pun] ∧ Own w' V2.heap.size .u32 91 p14 c14 (dig B32 1) ∧ Own w' V2.heap.size .u32 91 p21 c21 (dig B32 pd) ∧ Below V2.heap.size V2 w' ∧ V2.heap.size ≤ kb5) ?_ (fun Gx hGx => ?_)
        · skip
          replace b2 := (b2.past hbV2)
          obtain ⟨V3, hVV3, hbV3, hzV3⟩ := drew_of V2
          replace b3 := (b3.past hbV3)
          replace b2 := (b2.past hbV3)
          refine yd2 hVV3 ⟨b3, b2⟩ ?_
          clear hVV3
          refine yt 14 [0, 1] rfl ⟨b3, b2⟩ ?_
          refine ytl 2 rfl 10 (fun _ h => h.1) hT4 0 ⟨b3, b2⟩ ?_
          refine yt 11 [3, 4] rfl ⟨b3, b2⟩ ?_
          refine ytl 5 rfl 13 (fun _ h => h.1) hT23 1 ⟨b3, b2⟩ ?_
          refine yt 8 [7, 8] rfl ⟨b3, b2⟩ ?_
          refine ytl 9 rfl 17 (fun _ h => h.1) hT3 2 ⟨b3, b2⟩ ?_
          refine yt 6 [11] rfl ⟨b3, b2⟩ ?_
          refine ytla 12 rfl 20 (fun _ h => h.2) hT29 3 ⟨b3, b2⟩ ?_
          refine sxr [6, 14] ?_
          refine rd2 (fun Kx hKx => ?_) ?_
          · skip
            refine yck 14 (sof 1 1 rfl (by omega) V3) ?_
            rintro eV4 V4 ⟨p14, c14, rfl, o14, hbV4⟩
            have hzV4 := hbV4.size
            refine ⟨_, rfl, ?_⟩
            replace b3 := (b3.past hbV4)
            replace b2 := (b2.past hbV4)
            refine hKx.out _ _ ⟨b3, b2⟩ ?_
            clear hKx Kx
            refine yt 3 [10] rfl ⟨b3, b2⟩ ?_
            refine sxr [13, 14] ?_
            refine rd2 (fun Kx hKx => ?_) ?_
            · skip
              replace hp := (hp.past (bthru (bthru (bthru hbV1 hbV2) hbV3) hbV4))
              refine yck 21 ((HF V4 p14 c14 hp o14.rd).out) ?_
              rintro eV5 V5 ⟨p21, c21, rfl, o21, hbV5⟩
              have hzV5 := hbV5.size
              refine ⟨_, rfl, ?_⟩
              replace b3 := (b3.past hbV5)
              replace b2 := (b2.past hbV5)
              refine hKx.out _ _ ⟨b3, b2⟩ ?_
              clear hKx Kx
              refine sxr [14] ?_
              refine rd1 (fun Kx hKx => ?_)
              refine snk 5 #[.bool false, .slice none 0 0, .int .i64 0, .bool false, .bool false, .bool false] 50 (fun V6 hbV6 hzV6 b5 => ?_)
              replace b3 := (b3.past hbV6)
              replace b2 := (b2.past hbV6)
              refine hKx.out _ _ ⟨b3, b2⟩ ?_
              clear hKx Kx
              refine sxr [15] ?_
              refine rd1 (fun Kx hKx => ?_)
              refine ssk none b5 hT50 0 #[.bool pn, .slice p21 (dig B32 pd).length c21, .int .i64 pp, .bool pex, .bool pov, .bool pun] #[.bool pn, .slice p21 (dig B32 pd).length c21, .int .i64 pp, .bool pex, .bool pov, .bool pun] ?_
              have boV7 := b5
              clear b5
              intro V7 hOV7 b5
              have hzV7 := hOV7.size
              replace b3 := (b3.only hOV7 (by omega))
              replace b2 := (b2.only hOV7 (by omega))
              refine hKx.out _ _ ⟨b3, b2⟩ ?_
              clear hKx Kx
              refine sx_done (by kernel_rfl) ?_
              replace o14 := (o14.past ((bthru hbV5 hbV6).trans (hOV7.below (by omega))))
              replace o21 := (o21.past (hbV6.trans (hOV7.below (by omega))))
              exact ⟨rfl, V5.heap.size, p14, c14, p21, c21, by kernel_rfl, b5, (o14.mono (by omega)), (o21.mono (by omega)), ((bthru (bthru (bthru hbV3 hbV4) hbV5) hbV6).trans (hOV7.below (by omega))), by omega⟩
            refine rd1 (fun Kx hKx => ?_)
            refine snk 5 #[.bool false, .slice none 0 0, .int .i64 0, .bool false, .bool false, .bool false] 50 (fun V5 hbV5 hzV5 b5 => ?_)
            replace b3 := (b3.past hbV5)
            replace b2 := (b2.past hbV5)
            refine hKx.out _ _ ⟨b3, b2⟩ ?_
            clear hKx Kx
            refine sxr [13] ?_
            refine rd1 (fun Kx hKx => ?_)
            replace hp := (hp.past (bthru (bthru (bthru (bthru hbV1 hbV2) hbV3) hbV4) hbV5))
            replace o14 := (o14.past hbV5)
            refine yck 21 ((HF V5 p14 c14 hp o14.rd).out) ?_
            rintro eV6 V6 ⟨p21, c21, rfl, o21, hbV6⟩
            have hzV6 := hbV6.size
            refine ⟨_, rfl, ?_⟩
            replace b3 := (b3.past hbV6)
            replace b2 := (b2.past hbV6)
            refine hKx.out _ _ ⟨b3, b2⟩ ?_
            clear hKx Kx
            refine sxr [15] ?_
            refine rd1 (fun Kx hKx => ?_)
            replace b5 := (b5.past hbV6)
            refine ssk none b5 hT50 0 #[.bool pn, .slice p21 (dig B32 pd).length c21, .int .i64 pp, .bool pex, .bool pov, .bool pun] #[.bool pn, .slice p21 (dig B32 pd).length c21, .int .i64 pp, .bool pex, .bool pov, .bool pun] ?_
            have boV7 := b5
            clear b5
            intro V7 hOV7 b5
            have hzV7 := hOV7.size
            replace b3 := (b3.only hOV7 (by omega))
            replace b2 := (b2.only hOV7 (by omega))
            refine hKx.out _ _ ⟨b3, b2⟩ ?_
            clear hKx Kx
            refine sx_done (by kernel_rfl) ?_
            replace o14 := ((o14.past hbV6).put boV7 hOV7 (by kernel_rfl))
            replace o21 := (o21.put boV7 hOV7 (by kernel_rfl))
            exact ⟨rfl, V4.heap.size, p14, c14, p21, c21, by kernel_rfl, b5, (o14.mono (by omega)), (o21.mono (by omega)), ((bthru (bthru (bthru hbV3 hbV4) hbV5) hbV6).trans (hOV7.below (by omega))), by omega⟩
          refine rd1 (fun Kx hKx => ?_)
          refine snk 5 #[.bool false, .slice none 0 0, .int .i64 0, .bool false, .bool false, .bool false] 50 (fun V4 hbV4 hzV4 b5 => ?_)
          replace b3 := (b3.past hbV4)
          replace b2 := (b2.past hbV4)
          refine hKx.out _ _ ⟨b3, b2⟩ ?_
          clear hKx Kx
          refine sxr [6] ?_
          refine rd1 (fun Kx hKx => ?_)
          refine yck 14 (sof 1 1 rfl (by omega) V4) ?_
          rintro eV5 V5 ⟨p14, c14, rfl, o14, hbV5⟩
          have hzV5 := hbV5.size
          refine ⟨_, rfl, ?_⟩
          replace b3 := (b3.past hbV5)
          replace b2 := (b2.past hbV5)
          refine hKx.out _ _ ⟨b3, b2⟩ ?_
          clear hKx Kx
          refine yt 2 [10] rfl ⟨b3, b2⟩ ?_
          refine sxr [13] ?_
          refine rd1 (fun Kx hKx => ?_)
          replace hp := (hp.past (bthru (bthru (bthru (bthru hbV1 hbV2) hbV3) hbV4) hbV5))
          refine yck 21 ((HF V5 p14 c14 hp o14.rd).out) ?_
          rintro eV6 V6 ⟨p21, c21, rfl, o21, hbV6⟩
          have hzV6 := hbV6.size
          refine ⟨_, rfl, ?_⟩
          replace b3 := (b3.past hbV6)
          replace b2 := (b2.past hbV6)
          refine hKx.out _ _ ⟨b3, b2⟩ ?_
          clear hKx Kx
          refine sxr [15] ?_
          refine rd1 (fun Kx hKx => ?_)
          replace b5 := (b5.past (bthru hbV5 hbV6))
          refine ssk none b5 hT50 0 #[.bool pn, .slice p21 (dig B32 pd).length c21, .int .i64 pp, .bool pex, .bool pov, .bool pun] #[.bool pn, .slice p21 (dig B32 pd).length c21, .int .i64 pp, .bool pex, .bool pov, .bool pun] ?_
          have boV7 := b5
          clear b5
          intro V7 hOV7 b5
          have hzV7 := hOV7.size
          replace b3 := (b3.only hOV7 (by omega))
          replace b2 := (b2.only hOV7 (by omega))
          refine hKx.out _ _ ⟨b3, b2⟩ ?_
          clear hKx Kx
          refine sx_done (by kernel_rfl) ?_
          replace o14 := ((o14.past hbV6).put boV7 hOV7 (by kernel_rfl))
          replace o21 := (o21.put boV7 hOV7 (by kernel_rfl))
          exact ⟨rfl, V3.heap.size, p14, c14, p21, c21, by kernel_rfl, b5, (o14.mono (by omega)), (o21.mono (by omega)), ((bthru (bthru (bthru hbV3 hbV4) hbV5) hbV6).trans (hOV7.below (by omega))), by omega⟩
        rintro _ V3 ⟨kb5, p14, c14, p21, c21, rfl, b5, o14, o21, hbV3, hkb5⟩
        refine hGx _ _ ?_
        clear hGx Gx
        have hzV3 := hbV3.size
        have hlb5 := b5.lt
        refine sx_then ?_
        refine ye ?_
        refine yl 1 rfl 23 b5 hT3 2 ?_
        replace b2 := (b2.past (bthru hbV2 hbV3))
        refine yl 2 rfl 26 b2 hT3 5 ?_
        refine yi 0 rfl 27 (pp - f.g.lo) ?_
        refine yzt 1 ?_
        refine ye ?_
        refine yl 1 rfl 29 b5 hT23 1 ?_
        refine yzt 1 ?_
        refine wp_seq ?_
        refine ye ?_
        refine yl 2 rfl 32 b2 hT3 3 ?_
        refine yb 0 rfl 33 (f.g.rad == 2) (true) (by rw [hr]; rfl) ?_
        refine yzt 0 ?_
        refine yT ?_
        refine ye ?_
        refine ya 1 rfl 35 .i64 ((pp - f.g.lo) + 1) (((e1 : Nat) : Int)) ((by rw [hei]; exact IntWalk.i64_in _ (by omega))) ?_
        refine yzt 1 ?_
        refine wp_seq ?_
        obtain ⟨V4, hVV4, hbV4, hzV4⟩ := drew_of V3
        replace b2 := (b2.past hbV4)
        refine yd1 hVV4 b2 ?_
        clear hVV4
        refine yt 3 [0, 2, 3] rfl b2 ?_
        refine ytl 4 rfl 40 (fun _ h => h) hT3 4 b2 ?_
        refine sxr [1] ?_
        refine rd1 (fun Kx hKx => ?_)
        replace o21 := (o21.past hbV4)
        refine yck 37 (stay (len_any p21 _ c21 pd V4 o21.rd rfl (by omega))) ?_
        rintro eV5 V5 ⟨rfl, hbV5⟩
        have hzV5 := hbV5.size
        refine ⟨_, rfl, ?_⟩
        replace b2 := (b2.past hbV5)
        refine hKx.out _ _ b2 ?_
        clear hKx Kx
        refine tk 5 41 (.bool false) b2 ?_ (hy := fun w' _ => ((show _ = Result.ok (Next.value (.bool (decide (((blen pd : Nat) : Int) < f.g.digs)))) _ from (by kernel_rfl)).trans (congrArg (fun z => Result.ok (Next.value (.bool z)) _) (show (decide (((blen pd : Nat) : Int) < f.g.digs)) = false from decide_eq_false (by omega)))))
        refine sx_done (by kernel_rfl) ?_
        refine sx_then ?_
        refine yF ?_
        refine ye ?_
        refine ylb 1 rfl 43 b2 hT4 8 (f.hid) false (hh) ?_
        refine yzt 0 ?_
        refine yF ?_
        refine wp_skip ?_
        refine sx_then ?_
        refine ye ?_
        refine yla 0 rfl 49 b2 hT116 0 ?_
        replace b3 := (b3.past (bthru (bthru hbV3 hbV4) hbV5))
        refine yl 2 rfl 52 b3 hT4 0 ?_
        replace o21 := (o21.past hbV5)
        refine yc 3 rfl 56 ((HJ V5 s e1 pd p21 c21 o21.rd hlt.1 hlt.2).out) (fun Gx hGx => ?_)
        rintro eV6 V6 ⟨rfl, hbV6⟩
        have hzV6 := hbV6.size
        refine ⟨_, rfl, hGx _ _ ?_⟩
        clear hGx Gx
        refine yzt 1 ?_
        refine wp_ret ?_
        repeat (first | with_reducible refine sx_thenret ?_ | with_reducible refine sx_blockret ?_)
        refine yret (.string (strOf (f.str s e1 pd))) (res1 Tryd.results72 rvt) ?_
        exact ⟨rfl, (bthru (bthru (bthru (bthru (bthru hbV1 hbV2) hbV3) hbV4) hbV5) hbV6)⟩
      · rw [if_neg hx] at hlt ⊢
        have hx' : f.ext = false := by simpa using hx
        have hh : f.hid = true := by unfold Fm.hid; rw [hx']; simp [hf]
        have hFF := G.d1 hf hx'
        have hge : 2 ^ f.F ≤ pd := by
          have h1 := blen_pow pd ((blen_pos pd).1 (by omega))
          rw [show blen pd - 1 = f.F by omega] at h1
          exact h1
        have ht := two_len G.f2
        have hT3 : SxOne Tryd.prog 3 := sxOne_of (by kernel_rfl) (by kernel_rfl)
        have hT4 : SxOne Tryd.prog 4 := sxOne_of (by kernel_rfl) (by kernel_rfl)
        have hT23 : SxOne Tryd.prog 23 := sxOne_of (by kernel_rfl) (by kernel_rfl)
        have hT29 : SxAgg Tryd.prog 29 5 := sxAgg_of (by kernel_rfl) (by kernel_rfl)
        have hT50 : SxAgg Tryd.prog 50 6 := sxAgg_of (by kernel_rfl) (by kernel_rfl)
        have hT116 : SxAgg Tryd.prog 116 12 := sxAgg_of (by kernel_rfl) (by kernel_rfl)
        refine calls_of_wp Tryd.func72 rfl ?_
        refine sx_frame (a' := ⟨((.agg #[.int .i64 ((f.size : Nat) : Int), .int .i64 ((f.E : Nat) : Int), .int .i64 ((f.F : Nat) : Int), .int .i64 f.g.rad, .int .i64 f.g.digs, .int .i64 f.g.lo, .int .i64 f.g.hi, .bool f.g.grad, .bool f.hid, .bool f.inf, .bool f.res, .func (.func (ordF f)) #[] #[]]) :: (.agg #[.bool s, .slice p (dig B32 m).length c, .int .i64 e]) :: us 55 []).toArray, []⟩) (by kernel_rfl) ?_
        refine ye ?_
        refine yw 0 rfl 2 #[.int .i64 ((f.size : Nat) : Int), .int .i64 ((f.E : Nat) : Int), .int .i64 ((f.F : Nat) : Int), .int .i64 f.g.rad, .int .i64 f.g.digs, .int .i64 f.g.lo, .int .i64 f.g.hi, .bool f.g.grad, .bool f.hid, .bool f.inf, .bool f.res, .func (.func (ordF f)) #[] #[]] 116 (fun V1 hbV1 hzV1 b2 => ?_)
        refine yw 0 rfl 3 #[.bool s, .slice p (dig B32 m).length c, .int .i64 e] 97 (fun V2 hbV2 hzV2 b3 => ?_)
        refine yzt 1 ?_
        refine wp_seq ?_
        refine sx_cutg (R := fun a' w' => ∃ (kb5 : Nat) (p14 : Option Addr) (c14 : Nat) (p21 : Option Addr) (c21 : Nat), a' = ⟨((.agg #[.int .i64 ((f.size : Nat) : Int), .int .i64 ((f.E : Nat) : Int), .int .i64 ((f.F : Nat) : Int), .int .i64 f.g.rad, .int .i64 f.g.digs, .int .i64 f.g.lo, .int .i64 f.g.hi, .bool f.g.grad, .bool f.hid, .bool f.inf, .bool f.res, .func (.func (ordF f)) #[] #[]]) :: (.agg #[.bool s, .slice p (dig B32 m).length c, .int .i64 e]) :: (.pointer (some ⟨w.heap.size, 0, none⟩)) :: (.pointer (some ⟨V1.heap.size, 0, none⟩)) :: (Go.Value.string (ByteArray.mk #[])) :: (.pointer (some ⟨kb5, 0, none⟩)) :: us 2 ((.pointer (some ⟨V1.heap.size, 0, none⟩)) :: (.pointer (some ⟨V1.heap.size, 0, none⟩)) :: (.bool s) :: (.pointer (some ⟨V1.heap.size, 0, none⟩)) :: (.pointer (some ⟨V1.heap.size, 1, none⟩)) :: (.slice p (dig B32 m).length c) :: (.slice p14 (dig B32 1).length c14) :: (.pointer (some ⟨V1.heap.size, 0, none⟩)) :: (.pointer (some ⟨V1.heap.size, 2, none⟩)) :: (.int .i64 e) :: (.agg #[.bool s, .slice p (dig B32 m).length c, .slice p14 (dig B32 1).length c14, .int .i64 e]) :: (.pointer (some ⟨w.heap.size, 3, none⟩)) :: (.agg #[.int .i64 f.g.rad, .int .i64 f.g.digs, .int .i64 f.g.lo, .int .i64 f.g.hi, .bool f.g.grad]) :: (.agg #[.bool pn, .slice p21 (dig B32 pd).length c21, .int .i64 pp, .bool pex, .bool pov, .bool pun]) :: us 35 [])).toArray, []⟩ ∧ Bt w' kb5 50 #[.bool pn, .slice p21 (dig B32 pd).length c21, .int .i64 pp, .bool pex, .bool pov, .bool pun] ∧ Own w' V2.heap.size .u32 91 p14 c14 (dig B32 1) ∧ Own w' V2.heap.size .u32 91 p21 c21 (dig B32 pd) ∧ Below V2.heap.size V2 w' ∧ V2.heap.size ≤ kb5) ?_ (fun Gx hGx => ?_)
        · skip
          replace b2 := (b2.past hbV2)
          obtain ⟨V3, hVV3, hbV3, hzV3⟩ := drew_of V2
          replace b3 := (b3.past hbV3)
          replace b2 := (b2.past hbV3)
          refine yd2 hVV3 ⟨b3, b2⟩ ?_
          clear hVV3
          refine yt 14 [0, 1] rfl ⟨b3, b2⟩ ?_
          refine ytl 2 rfl 10 (fun _ h => h.1) hT4 0 ⟨b3, b2⟩ ?_
          refine yt 11 [3, 4] rfl ⟨b3, b2⟩ ?_
          refine ytl 5 rfl 13 (fun _ h => h.1) hT23 1 ⟨b3, b2⟩ ?_
          refine yt 8 [7, 8] rfl ⟨b3, b2⟩ ?_
          refine ytl 9 rfl 17 (fun _ h => h.1) hT3 2 ⟨b3, b2⟩ ?_
          refine yt 6 [11] rfl ⟨b3, b2⟩ ?_
          refine ytla 12 rfl 20 (fun _ h => h.2) hT29 3 ⟨b3, b2⟩ ?_
          refine sxr [6, 14] ?_
          refine rd2 (fun Kx hKx => ?_) ?_
          · skip
            refine yck 14 (sof 1 1 rfl (by omega) V3) ?_
            rintro eV4 V4 ⟨p14, c14, rfl, o14, hbV4⟩
            have hzV4 := hbV4.size
            refine ⟨_, rfl, ?_⟩
            replace b3 := (b3.past hbV4)
            replace b2 := (b2.past hbV4)
            refine hKx.out _ _ ⟨b3, b2⟩ ?_
            clear hKx Kx
            refine yt 3 [10] rfl ⟨b3, b2⟩ ?_
            refine sxr [13, 14] ?_
            refine rd2 (fun Kx hKx => ?_) ?_
            · skip
              replace hp := (hp.past (bthru (bthru (bthru hbV1 hbV2) hbV3) hbV4))
              refine yck 21 ((HF V4 p14 c14 hp o14.rd).out) ?_
              rintro eV5 V5 ⟨p21, c21, rfl, o21, hbV5⟩
              have hzV5 := hbV5.size
              refine ⟨_, rfl, ?_⟩
              replace b3 := (b3.past hbV5)
              replace b2 := (b2.past hbV5)
              refine hKx.out _ _ ⟨b3, b2⟩ ?_
              clear hKx Kx
              refine sxr [14] ?_
              refine rd1 (fun Kx hKx => ?_)
              refine snk 5 #[.bool false, .slice none 0 0, .int .i64 0, .bool false, .bool false, .bool false] 50 (fun V6 hbV6 hzV6 b5 => ?_)
              replace b3 := (b3.past hbV6)
              replace b2 := (b2.past hbV6)
              refine hKx.out _ _ ⟨b3, b2⟩ ?_
              clear hKx Kx
              refine sxr [15] ?_
              refine rd1 (fun Kx hKx => ?_)
              refine ssk none b5 hT50 0 #[.bool pn, .slice p21 (dig B32 pd).length c21, .int .i64 pp, .bool pex, .bool pov, .bool pun] #[.bool pn, .slice p21 (dig B32 pd).length c21, .int .i64 pp, .bool pex, .bool pov, .bool pun] ?_
              have boV7 := b5
              clear b5
              intro V7 hOV7 b5
              have hzV7 := hOV7.size
              replace b3 := (b3.only hOV7 (by omega))
              replace b2 := (b2.only hOV7 (by omega))
              refine hKx.out _ _ ⟨b3, b2⟩ ?_
              clear hKx Kx
              refine sx_done (by kernel_rfl) ?_
              replace o14 := (o14.past ((bthru hbV5 hbV6).trans (hOV7.below (by omega))))
              replace o21 := (o21.past (hbV6.trans (hOV7.below (by omega))))
              exact ⟨rfl, V5.heap.size, p14, c14, p21, c21, by kernel_rfl, b5, (o14.mono (by omega)), (o21.mono (by omega)), ((bthru (bthru (bthru hbV3 hbV4) hbV5) hbV6).trans (hOV7.below (by omega))), by omega⟩
            refine rd1 (fun Kx hKx => ?_)
            refine snk 5 #[.bool false, .slice none 0 0, .int .i64 0, .bool false, .bool false, .bool false] 50 (fun V5 hbV5 hzV5 b5 => ?_)
            replace b3 := (b3.past hbV5)
            replace b2 := (b2.past hbV5)
            refine hKx.out _ _ ⟨b3, b2⟩ ?_
            clear hKx Kx
            refine sxr [13] ?_
            refine rd1 (fun Kx hKx => ?_)
            replace hp := (hp.past (bthru (bthru (bthru (bthru hbV1 hbV2) hbV3) hbV4) hbV5))
            replace o14 := (o14.past hbV5)
            refine yck 21 ((HF V5 p14 c14 hp o14.rd).out) ?_
            rintro eV6 V6 ⟨p21, c21, rfl, o21, hbV6⟩
            have hzV6 := hbV6.size
            refine ⟨_, rfl, ?_⟩
            replace b3 := (b3.past hbV6)
            replace b2 := (b2.past hbV6)
            refine hKx.out _ _ ⟨b3, b2⟩ ?_
            clear hKx Kx
            refine sxr [15] ?_
            refine rd1 (fun Kx hKx => ?_)
            replace b5 := (b5.past hbV6)
            refine ssk none b5 hT50 0 #[.bool pn, .slice p21 (dig B32 pd).length c21, .int .i64 pp, .bool pex, .bool pov, .bool pun] #[.bool pn, .slice p21 (dig B32 pd).length c21, .int .i64 pp, .bool pex, .bool pov, .bool pun] ?_
            have boV7 := b5
            clear b5
            intro V7 hOV7 b5
            have hzV7 := hOV7.size
            replace b3 := (b3.only hOV7 (by omega))
            replace b2 := (b2.only hOV7 (by omega))
            refine hKx.out _ _ ⟨b3, b2⟩ ?_
            clear hKx Kx
            refine sx_done (by kernel_rfl) ?_
            replace o14 := ((o14.past hbV6).put boV7 hOV7 (by kernel_rfl))
            replace o21 := (o21.put boV7 hOV7 (by kernel_rfl))
            exact ⟨rfl, V4.heap.size, p14, c14, p21, c21, by kernel_rfl, b5, (o14.mono (by omega)), (o21.mono (by omega)), ((bthru (bthru (bthru hbV3 hbV4) hbV5) hbV6).trans (hOV7.below (by omega))), by omega⟩
          refine rd1 (fun Kx hKx => ?_)
          refine snk 5 #[.bool false, .slice none 0 0, .int .i64 0, .bool false, .bool false, .bool false] 50 (fun V4 hbV4 hzV4 b5 => ?_)
          replace b3 := (b3.past hbV4)
          replace b2 := (b2.past hbV4)
          refine hKx.out _ _ ⟨b3, b2⟩ ?_
          clear hKx Kx
          refine sxr [6] ?_
          refine rd1 (fun Kx hKx => ?_)
          refine yck 14 (sof 1 1 rfl (by omega) V4) ?_
          rintro eV5 V5 ⟨p14, c14, rfl, o14, hbV5⟩
          have hzV5 := hbV5.size
          refine ⟨_, rfl, ?_⟩
          replace b3 := (b3.past hbV5)
          replace b2 := (b2.past hbV5)
          refine hKx.out _ _ ⟨b3, b2⟩ ?_
          clear hKx Kx
          refine yt 2 [10] rfl ⟨b3, b2⟩ ?_
          refine sxr [13] ?_
          refine rd1 (fun Kx hKx => ?_)
          replace hp := (hp.past (bthru (bthru (bthru (bthru hbV1 hbV2) hbV3) hbV4) hbV5))
          refine yck 21 ((HF V5 p14 c14 hp o14.rd).out) ?_
          rintro eV6 V6 ⟨p21, c21, rfl, o21, hbV6⟩
          have hzV6 := hbV6.size
          refine ⟨_, rfl, ?_⟩
          replace b3 := (b3.past hbV6)
          replace b2 := (b2.past hbV6)
          refine hKx.out _ _ ⟨b3, b2⟩ ?_
          clear hKx Kx
          refine sxr [15] ?_
          refine rd1 (fun Kx hKx => ?_)
          replace b5 := (b5.past (bthru hbV5 hbV6))
          refine ssk none b5 hT50 0 #[.bool pn, .slice p21 (dig B32 pd).length c21, .int .i64 pp, .bool pex, .bool pov, .bool pun] #[.bool pn, .slice p21 (dig B32 pd).length c21, .int .i64 pp, .bool pex, .bool pov, .bool pun] ?_
          have boV7 := b5
          clear b5
          intro V7 hOV7 b5
          have hzV7 := hOV7.size
          replace b3 := (b3.only hOV7 (by omega))
          replace b2 := (b2.only hOV7 (by omega))
          refine hKx.out _ _ ⟨b3, b2⟩ ?_
          clear hKx Kx
          refine sx_done (by kernel_rfl) ?_
          replace o14 := ((o14.past hbV6).put boV7 hOV7 (by kernel_rfl))
          replace o21 := (o21.put boV7 hOV7 (by kernel_rfl))
          exact ⟨rfl, V3.heap.size, p14, c14, p21, c21, by kernel_rfl, b5, (o14.mono (by omega)), (o21.mono (by omega)), ((bthru (bthru (bthru hbV3 hbV4) hbV5) hbV6).trans (hOV7.below (by omega))), by omega⟩
        rintro _ V3 ⟨kb5, p14, c14, p21, c21, rfl, b5, o14, o21, hbV3, hkb5⟩
        refine hGx _ _ ?_
        clear hGx Gx
        have hzV3 := hbV3.size
        have hlb5 := b5.lt
        refine sx_then ?_
        refine ye ?_
        refine yl 1 rfl 23 b5 hT3 2 ?_
        replace b2 := (b2.past (bthru hbV2 hbV3))
        refine yl 2 rfl 26 b2 hT3 5 ?_
        refine yi 0 rfl 27 (pp - f.g.lo) ?_
        refine yzt 1 ?_
        refine ye ?_
        refine yl 1 rfl 29 b5 hT23 1 ?_
        refine yzt 1 ?_
        refine wp_seq ?_
        refine ye ?_
        refine yl 2 rfl 32 b2 hT3 3 ?_
        refine yb 0 rfl 33 (f.g.rad == 2) (true) (by rw [hr]; rfl) ?_
        refine yzt 0 ?_
        refine yT ?_
        refine ye ?_
        refine ya 1 rfl 35 .i64 ((pp - f.g.lo) + 1) (((e1 : Nat) : Int)) ((by rw [hei]; exact IntWalk.i64_in _ (by omega))) ?_
        refine yzt 1 ?_
        refine wp_seq ?_
        obtain ⟨V4, hVV4, hbV4, hzV4⟩ := drew_of V3
        replace b2 := (b2.past hbV4)
        refine yd1 hVV4 b2 ?_
        clear hVV4
        refine yt 3 [0, 2, 3] rfl b2 ?_
        refine ytl 4 rfl 40 (fun _ h => h) hT3 4 b2 ?_
        refine sxr [1] ?_
        refine rd1 (fun Kx hKx => ?_)
        replace o21 := (o21.past hbV4)
        refine yck 37 (stay (len_any p21 _ c21 pd V4 o21.rd rfl (by omega))) ?_
        rintro eV5 V5 ⟨rfl, hbV5⟩
        have hzV5 := hbV5.size
        refine ⟨_, rfl, ?_⟩
        replace b2 := (b2.past hbV5)
        refine hKx.out _ _ b2 ?_
        clear hKx Kx
        refine tk 5 41 (.bool false) b2 ?_ (hy := fun w' _ => ((show _ = Result.ok (Next.value (.bool (decide (((blen pd : Nat) : Int) < f.g.digs)))) _ from (by kernel_rfl)).trans (congrArg (fun z => Result.ok (Next.value (.bool z)) _) (show (decide (((blen pd : Nat) : Int) < f.g.digs)) = false from decide_eq_false (by omega)))))
        refine sx_done (by kernel_rfl) ?_
        refine sx_then ?_
        refine yF ?_
        refine ye ?_
        refine ylb 1 rfl 43 b2 hT4 8 (f.hid) true (hh) ?_
        refine yzt 0 ?_
        refine yT ?_
        refine sx_region ?_
        refine yl 2 rfl 46 b2 hT3 2 ?_
        refine yc 0 rfl 47 (two_any f.F (2 ^ f.F) _ V5 (by have := G.f2; omega) rfl rfl) (fun Gx hGx => ?_)
        rintro eV6 V6 ⟨p47, c47, rfl, o47, hbV6⟩
        have hzV6 := hbV6.size
        refine ⟨_, rfl, hGx _ _ ?_⟩
        clear hGx Gx
        replace o21 := (o21.past (bthru hbV5 hbV6))
        refine yc 0 rfl 48 (ssub p21 p47 _ _ c21 c47 pd (2 ^ f.F) (pd - 2 ^ f.F) V6 o21.rd o47.rd rfl rfl (by omega) hge rfl) (fun Gx hGx => ?_)
        rintro eV7 V7 ⟨p48, c48, rfl, o48, hbV7⟩
        have hzV7 := hbV7.size
        refine ⟨_, rfl, hGx _ _ ?_⟩
        clear hGx Gx
        refine yz 1 ?_
        refine sx_then ?_
        refine ye ?_
        replace b2 := (b2.past (bthru hbV6 hbV7))
        refine yla 0 rfl 49 b2 hT116 0 ?_
        replace b3 := (b3.past (bthru (bthru (bthru (bthru hbV3 hbV4) hbV5) hbV6) hbV7))
        refine yl 2 rfl 52 b3 hT4 0 ?_
        refine yc 3 rfl 56 ((HJ V7 s e1 (pd - 2 ^ f.F) p48 c48 o48.rd hlt.1 hlt.2).out) (fun Gx hGx => ?_)
        rintro eV8 V8 ⟨rfl, hbV8⟩
        have hzV8 := hbV8.size
        refine ⟨_, rfl, hGx _ _ ?_⟩
        clear hGx Gx
        refine yzt 1 ?_
        refine wp_ret ?_
        repeat (first | with_reducible refine sx_thenret ?_ | with_reducible refine sx_blockret ?_)
        refine yret (.string (strOf (f.str s e1 (pd - 2 ^ f.F)))) (res1 Tryd.results72 rvt) ?_
        exact ⟨rfl, (bthru (bthru (bthru (bthru (bthru (bthru (bthru hbV1 hbV2) hbV3) hbV4) hbV5) hbV6) hbV7) hbV8)⟩
    · rw [if_neg hb] at hlt ⊢
      simp only at hlt ⊢
      have hlo := (hlow hf hb).1
      have h0e : (pp - f.g.lo).toNat = 0 := by omega
      rw [h0e] at hlt ⊢
      have hT3 : SxOne Tryd.prog 3 := sxOne_of (by kernel_rfl) (by kernel_rfl)
      have hT4 : SxOne Tryd.prog 4 := sxOne_of (by kernel_rfl) (by kernel_rfl)
      have hT23 : SxOne Tryd.prog 23 := sxOne_of (by kernel_rfl) (by kernel_rfl)
      have hT29 : SxAgg Tryd.prog 29 5 := sxAgg_of (by kernel_rfl) (by kernel_rfl)
      have hT50 : SxAgg Tryd.prog 50 6 := sxAgg_of (by kernel_rfl) (by kernel_rfl)
      have hT116 : SxAgg Tryd.prog 116 12 := sxAgg_of (by kernel_rfl) (by kernel_rfl)
      refine calls_of_wp Tryd.func72 rfl ?_
      refine sx_frame (a' := ⟨((.agg #[.int .i64 ((f.size : Nat) : Int), .int .i64 ((f.E : Nat) : Int), .int .i64 ((f.F : Nat) : Int), .int .i64 f.g.rad, .int .i64 f.g.digs, .int .i64 f.g.lo, .int .i64 f.g.hi, .bool f.g.grad, .bool f.hid, .bool f.inf, .bool f.res, .func (.func (ordF f)) #[] #[]]) :: (.agg #[.bool s, .slice p (dig B32 m).length c, .int .i64 e]) :: us 55 []).toArray, []⟩) (by kernel_rfl) ?_
      refine ye ?_
      refine yw 0 rfl 2 #[.int .i64 ((f.size : Nat) : Int), .int .i64 ((f.E : Nat) : Int), .int .i64 ((f.F : Nat) : Int), .int .i64 f.g.rad, .int .i64 f.g.digs, .int .i64 f.g.lo, .int .i64 f.g.hi, .bool f.g.grad, .bool f.hid, .bool f.inf, .bool f.res, .func (.func (ordF f)) #[] #[]] 116 (fun V1 hbV1 hzV1 b2 => ?_)
      refine yw 0 rfl 3 #[.bool s, .slice p (dig B32 m).length c, .int .i64 e] 97 (fun V2 hbV2 hzV2 b3 => ?_)
      refine yzt 1 ?_
      refine wp_seq ?_
      refine sx_cutg (R := fun a' w' => ∃ (kb5 : Nat) (p14 : Option Addr) (c14 : Nat) (p21 : Option Addr) (c21 : Nat), a' = ⟨((.agg #[.int .i64 ((f.size : Nat) : Int), .int .i64 ((f.E : Nat) : Int), .int .i64 ((f.F : Nat) : Int), .int .i64 f.g.rad, .int .i64 f.g.digs, .int .i64 f.g.lo, .int .i64 f.g.hi, .bool f.g.grad, .bool f.hid, .bool f.inf, .bool f.res, .func (.func (ordF f)) #[] #[]]) :: (.agg #[.bool s, .slice p (dig B32 m).length c, .int .i64 e]) :: (.pointer (some ⟨w.heap.size, 0, none⟩)) :: (.pointer (some ⟨V1.heap.size, 0, none⟩)) :: (Go.Value.string (ByteArray.mk #[])) :: (.pointer (some ⟨kb5, 0, none⟩)) :: us 2 ((.pointer (some ⟨V1.heap.size, 0, none⟩)) :: (.pointer (some ⟨V1.heap.size, 0, none⟩)) :: (.bool s) :: (.pointer (some ⟨V1.heap.size, 0, none⟩)) :: (.pointer (some ⟨V1.heap.size, 1, none⟩)) :: (.slice p (dig B32 m).length c) :: (.slice p14 (dig B32 1).length c14) :: (.pointer (some ⟨V1.heap.size, 0, none⟩)) :: (.pointer (some ⟨V1.heap.size, 2, none⟩)) :: (.int .i64 e) :: (.agg #[.bool s, .slice p (dig B32 m).length c, .slice p14 (dig B32 1).length c14, .int .i64 e]) :: (.pointer (some ⟨w.heap.size, 3, none⟩)) :: (.agg #[.int .i64 f.g.rad, .int .i64 f.g.digs, .int .i64 f.g.lo, .int .i64 f.g.hi, .bool f.g.grad]) :: (.agg #[.bool pn, .slice p21 (dig B32 pd).length c21, .int .i64 pp, .bool pex, .bool pov, .bool pun]) :: us 35 [])).toArray, []⟩ ∧ Bt w' kb5 50 #[.bool pn, .slice p21 (dig B32 pd).length c21, .int .i64 pp, .bool pex, .bool pov, .bool pun] ∧ Own w' V2.heap.size .u32 91 p14 c14 (dig B32 1) ∧ Own w' V2.heap.size .u32 91 p21 c21 (dig B32 pd) ∧ Below V2.heap.size V2 w' ∧ V2.heap.size ≤ kb5) ?_ (fun Gx hGx => ?_)
      · skip
        replace b2 := (b2.past hbV2)
        obtain ⟨V3, hVV3, hbV3, hzV3⟩ := drew_of V2
        replace b3 := (b3.past hbV3)
        replace b2 := (b2.past hbV3)
        refine yd2 hVV3 ⟨b3, b2⟩ ?_
        clear hVV3
        refine yt 14 [0, 1] rfl ⟨b3, b2⟩ ?_
        refine ytl 2 rfl 10 (fun _ h => h.1) hT4 0 ⟨b3, b2⟩ ?_
        refine yt 11 [3, 4] rfl ⟨b3, b2⟩ ?_
        refine ytl 5 rfl 13 (fun _ h => h.1) hT23 1 ⟨b3, b2⟩ ?_
        refine yt 8 [7, 8] rfl ⟨b3, b2⟩ ?_
        refine ytl 9 rfl 17 (fun _ h => h.1) hT3 2 ⟨b3, b2⟩ ?_
        refine yt 6 [11] rfl ⟨b3, b2⟩ ?_
        refine ytla 12 rfl 20 (fun _ h => h.2) hT29 3 ⟨b3, b2⟩ ?_
        refine sxr [6, 14] ?_
        refine rd2 (fun Kx hKx => ?_) ?_
        · skip
          refine yck 14 (sof 1 1 rfl (by omega) V3) ?_
          rintro eV4 V4 ⟨p14, c14, rfl, o14, hbV4⟩
          have hzV4 := hbV4.size
          refine ⟨_, rfl, ?_⟩
          replace b3 := (b3.past hbV4)
          replace b2 := (b2.past hbV4)
          refine hKx.out _ _ ⟨b3, b2⟩ ?_
          clear hKx Kx
          refine yt 3 [10] rfl ⟨b3, b2⟩ ?_
          refine sxr [13, 14] ?_
          refine rd2 (fun Kx hKx => ?_) ?_
          · skip
            replace hp := (hp.past (bthru (bthru (bthru hbV1 hbV2) hbV3) hbV4))
            refine yck 21 ((HF V4 p14 c14 hp o14.rd).out) ?_
            rintro eV5 V5 ⟨p21, c21, rfl, o21, hbV5⟩
            have hzV5 := hbV5.size
            refine ⟨_, rfl, ?_⟩
            replace b3 := (b3.past hbV5)
            replace b2 := (b2.past hbV5)
            refine hKx.out _ _ ⟨b3, b2⟩ ?_
            clear hKx Kx
            refine sxr [14] ?_
            refine rd1 (fun Kx hKx => ?_)
            refine snk 5 #[.bool false, .slice none 0 0, .int .i64 0, .bool false, .bool false, .bool false] 50 (fun V6 hbV6 hzV6 b5 => ?_)
            replace b3 := (b3.past hbV6)
            replace b2 := (b2.past hbV6)
            refine hKx.out _ _ ⟨b3, b2⟩ ?_
            clear hKx Kx
            refine sxr [15] ?_
            refine rd1 (fun Kx hKx => ?_)
            refine ssk none b5 hT50 0 #[.bool pn, .slice p21 (dig B32 pd).length c21, .int .i64 pp, .bool pex, .bool pov, .bool pun] #[.bool pn, .slice p21 (dig B32 pd).length c21, .int .i64 pp, .bool pex, .bool pov, .bool pun] ?_
            have boV7 := b5
            clear b5
            intro V7 hOV7 b5
            have hzV7 := hOV7.size
            replace b3 := (b3.only hOV7 (by omega))
            replace b2 := (b2.only hOV7 (by omega))
            refine hKx.out _ _ ⟨b3, b2⟩ ?_
            clear hKx Kx
            refine sx_done (by kernel_rfl) ?_
            replace o14 := (o14.past ((bthru hbV5 hbV6).trans (hOV7.below (by omega))))
            replace o21 := (o21.past (hbV6.trans (hOV7.below (by omega))))
            exact ⟨rfl, V5.heap.size, p14, c14, p21, c21, by kernel_rfl, b5, (o14.mono (by omega)), (o21.mono (by omega)), ((bthru (bthru (bthru hbV3 hbV4) hbV5) hbV6).trans (hOV7.below (by omega))), by omega⟩
          refine rd1 (fun Kx hKx => ?_)
          refine snk 5 #[.bool false, .slice none 0 0, .int .i64 0, .bool false, .bool false, .bool false] 50 (fun V5 hbV5 hzV5 b5 => ?_)
          replace b3 := (b3.past hbV5)
          replace b2 := (b2.past hbV5)
          refine hKx.out _ _ ⟨b3, b2⟩ ?_
          clear hKx Kx
          refine sxr [13] ?_
          refine rd1 (fun Kx hKx => ?_)
          replace hp := (hp.past (bthru (bthru (bthru (bthru hbV1 hbV2) hbV3) hbV4) hbV5))
          replace o14 := (o14.past hbV5)
          refine yck 21 ((HF V5 p14 c14 hp o14.rd).out) ?_
          rintro eV6 V6 ⟨p21, c21, rfl, o21, hbV6⟩
          have hzV6 := hbV6.size
          refine ⟨_, rfl, ?_⟩
          replace b3 := (b3.past hbV6)
          replace b2 := (b2.past hbV6)
          refine hKx.out _ _ ⟨b3, b2⟩ ?_
          clear hKx Kx
          refine sxr [15] ?_
          refine rd1 (fun Kx hKx => ?_)
          replace b5 := (b5.past hbV6)
          refine ssk none b5 hT50 0 #[.bool pn, .slice p21 (dig B32 pd).length c21, .int .i64 pp, .bool pex, .bool pov, .bool pun] #[.bool pn, .slice p21 (dig B32 pd).length c21, .int .i64 pp, .bool pex, .bool pov, .bool pun] ?_
          have boV7 := b5
          clear b5
          intro V7 hOV7 b5
          have hzV7 := hOV7.size
          replace b3 := (b3.only hOV7 (by omega))
          replace b2 := (b2.only hOV7 (by omega))
          refine hKx.out _ _ ⟨b3, b2⟩ ?_
          clear hKx Kx
          refine sx_done (by kernel_rfl) ?_
          replace o14 := ((o14.past hbV6).put boV7 hOV7 (by kernel_rfl))
          replace o21 := (o21.put boV7 hOV7 (by kernel_rfl))
          exact ⟨rfl, V4.heap.size, p14, c14, p21, c21, by kernel_rfl, b5, (o14.mono (by omega)), (o21.mono (by omega)), ((bthru (bthru (bthru hbV3 hbV4) hbV5) hbV6).trans (hOV7.below (by omega))), by omega⟩
        refine rd1 (fun Kx hKx => ?_)
        refine snk 5 #[.bool false, .slice none 0 0, .int .i64 0, .bool false, .bool false, .bool false] 50 (fun V4 hbV4 hzV4 b5 => ?_)
        replace b3 := (b3.past hbV4)
        replace b2 := (b2.past hbV4)
        refine hKx.out _ _ ⟨b3, b2⟩ ?_
        clear hKx Kx
        refine sxr [6] ?_
        refine rd1 (fun Kx hKx => ?_)
        refine yck 14 (sof 1 1 rfl (by omega) V4) ?_
        rintro eV5 V5 ⟨p14, c14, rfl, o14, hbV5⟩
        have hzV5 := hbV5.size
        refine ⟨_, rfl, ?_⟩
        replace b3 := (b3.past hbV5)
        replace b2 := (b2.past hbV5)
        refine hKx.out _ _ ⟨b3, b2⟩ ?_
        clear hKx Kx
        refine yt 2 [10] rfl ⟨b3, b2⟩ ?_
        refine sxr [13] ?_
        refine rd1 (fun Kx hKx => ?_)
        replace hp := (hp.past (bthru (bthru (bthru (bthru hbV1 hbV2) hbV3) hbV4) hbV5))
        refine yck 21 ((HF V5 p14 c14 hp o14.rd).out) ?_
        rintro eV6 V6 ⟨p21, c21, rfl, o21, hbV6⟩
        have hzV6 := hbV6.size
        refine ⟨_, rfl, ?_⟩
        replace b3 := (b3.past hbV6)
        replace b2 := (b2.past hbV6)
        refine hKx.out _ _ ⟨b3, b2⟩ ?_
        clear hKx Kx
        refine sxr [15] ?_
        refine rd1 (fun Kx hKx => ?_)
        replace b5 := (b5.past (bthru hbV5 hbV6))
        refine ssk none b5 hT50 0 #[.bool pn, .slice p21 (dig B32 pd).length c21, .int .i64 pp, .bool pex, .bool pov, .bool pun] #[.bool pn, .slice p21 (dig B32 pd).length c21, .int .i64 pp, .bool pex, .bool pov, .bool pun] ?_
        have boV7 := b5
        clear b5
        intro V7 hOV7 b5
        have hzV7 := hOV7.size
        replace b3 := (b3.only hOV7 (by omega))
        replace b2 := (b2.only hOV7 (by omega))
        refine hKx.out _ _ ⟨b3, b2⟩ ?_
        clear hKx Kx
        refine sx_done (by kernel_rfl) ?_
        replace o14 := ((o14.past hbV6).put boV7 hOV7 (by kernel_rfl))
        replace o21 := (o21.put boV7 hOV7 (by kernel_rfl))
        exact ⟨rfl, V3.heap.size, p14, c14, p21, c21, by kernel_rfl, b5, (o14.mono (by omega)), (o21.mono (by omega)), ((bthru (bthru (bthru hbV3 hbV4) hbV5) hbV6).trans (hOV7.below (by omega))), by omega⟩
      rintro _ V3 ⟨kb5, p14, c14, p21, c21, rfl, b5, o14, o21, hbV3, hkb5⟩
      refine hGx _ _ ?_
      clear hGx Gx
      have hzV3 := hbV3.size
      have hlb5 := b5.lt
      refine sx_then ?_
      refine ye ?_
      refine yl 1 rfl 23 b5 hT3 2 ?_
      replace b2 := (b2.past (bthru hbV2 hbV3))
      refine yl 2 rfl 26 b2 hT3 5 ?_
      refine yi 0 rfl 27 (pp - f.g.lo) ?_
      refine yzt 1 ?_
      refine ye ?_
      refine yl 1 rfl 29 b5 hT23 1 ?_
      refine yzt 1 ?_
      refine wp_seq ?_
      refine ye ?_
      refine yl 2 rfl 32 b2 hT3 3 ?_
      refine yb 0 rfl 33 (f.g.rad == 2) (true) (by rw [hr]; rfl) ?_
      refine yzt 0 ?_
      refine yT ?_
      refine ye ?_
      refine yi 1 rfl 35 ((pp - f.g.lo) + 1) ?_
      refine yzt 1 ?_
      refine wp_seq ?_
      obtain ⟨V4, hVV4, hbV4, hzV4⟩ := drew_of V3
      replace b2 := (b2.past hbV4)
      refine yd1 hVV4 b2 ?_
      clear hVV4
      refine yt 3 [0, 2, 3] rfl b2 ?_
      refine ytl 4 rfl 40 (fun _ h => h) hT3 4 b2 ?_
      refine sxr [1] ?_
      refine rd1 (fun Kx hKx => ?_)
      replace o21 := (o21.past hbV4)
      refine yck 37 (stay (len_any p21 _ c21 pd V4 o21.rd rfl (by omega))) ?_
      rintro eV5 V5 ⟨rfl, hbV5⟩
      have hzV5 := hbV5.size
      refine ⟨_, rfl, ?_⟩
      replace b2 := (b2.past hbV5)
      refine hKx.out _ _ b2 ?_
      clear hKx Kx
      refine tk 5 41 (.bool true) b2 ?_ (hy := fun w' _ => ((show _ = Result.ok (Next.value (.bool (decide (((blen pd : Nat) : Int) < f.g.digs)))) _ from (by kernel_rfl)).trans (congrArg (fun z => Result.ok (Next.value (.bool z)) _) (show (decide (((blen pd : Nat) : Int) < f.g.digs)) = true from decide_eq_true (by omega)))))
      refine sx_done (by kernel_rfl) ?_
      refine sx_then ?_
      refine yT ?_
      refine yr ?_
      refine sx_then ?_
      refine ye ?_
      refine yla 0 rfl 49 b2 hT116 0 ?_
      replace b3 := (b3.past (bthru (bthru hbV3 hbV4) hbV5))
      refine yl 2 rfl 52 b3 hT4 0 ?_
      replace o21 := (o21.past hbV5)
      refine yc 3 rfl 56 (join_int f s 0 0 pd rfl p21 c21 V5 G o21.rd hlt.1 hlt.2) (fun Gx hGx => ?_)
      rintro eV6 V6 ⟨rfl, hbV6⟩
      have hzV6 := hbV6.size
      refine ⟨_, rfl, hGx _ _ ?_⟩
      clear hGx Gx
      refine yzt 1 ?_
      refine wp_ret ?_
      repeat (first | with_reducible refine sx_thenret ?_ | with_reducible refine sx_blockret ?_)
      refine yret (.string (strOf (f.str s 0 pd))) (res1 Tryd.results72 rvt) ?_
      exact ⟨rfl, (bthru (bthru (bthru (bthru (bthru hbV1 hbV2) hbV3) hbV4) hbV5) hbV6)⟩
end Go.Proofs.YtcipdimogodndaaDoor
