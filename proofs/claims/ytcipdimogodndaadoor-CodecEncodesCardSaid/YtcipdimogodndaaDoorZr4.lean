/- codec: split: the parts of a pattern.
   codec: join: a pattern out of its parts.
   How a value becomes a pattern, said in numbers. No program is in sight here.
   grid: within, width, floor, Check.
   grid: scaled.
   A map from int that a call makes, known whole: 'insert' of a new key, and a look-up. No program is in sight here.
   grid: the map of ways.
   grid: the ways to round.
   grid: Fit.
   grid: Round.
   dyad.Whole, Opposite; grid.Number.
   grid: ratio, Keeps, check, Holds.
   grid: After.
   references: CheckGrid, Width, Away, IsWay, CheckRatio.
   The references' sum.
   The references' comparison, length in bits, difference.
   Noughts behind a list of digits to the base of 65536. Plain arithmetic. No program is in sight here.
   references: InGrid.
   The references' powers of 2 and shifts.
   The references' Bared, OfDyad.
   The references' difference.
   The references' DTimes, Minus, DCmp, FloorOf.
   references: StepOf. -/
import Derived.Maps.Own
import Derived.Outline
import Derived.Deep.LoopGhost
import Derived.Deep.RegionHeld3
import Derived.Deep.DeepCutAuto
import Derived.Lib.Strings
import Derived.Lib.Slices
import Derived.Lib.Small
import Derived.Lib.Walk
import Derived.Lib.BitFns
import Derived.Test.YtcipdimogodndaaDoorZr1
import Derived.Test.YtcipdimogodndaaDoorZr2
import Derived.Test.YtcipdimogodndaaDoorZr3
namespace Go.Slip
theorem be_take_succ (L : List Nat) (i : Nat) (h : i < L.length) : be (L.take i) * 2 ^ 8 + dg L i = be (L.take (i + 1)) := by
  rw [← List.take_append_getElem h, be_snoc, dg_of_lt h]
theorem nat_beq_one (n : Nat) : (((n : Nat) : Int) == 1) = (n == 1) := by
  rw [Bool.eq_iff_iff, beq_iff_eq, beq_iff_eq]; omega
theorem be_take_lt (L : List Nat) (i : Nat) (h : ∀ c ∈ L, c < 256) (hl : L.length ≤ 10) : be (L.take i) < 2 ^ 80 := by
  have h1 := be_lt (L.take i) (fun c hc => h c (List.mem_of_mem_take hc))
  refine Nat.lt_of_lt_of_le h1 (Nat.pow_le_pow_right (by omega) ?_)
  have : (L.take i).length ≤ L.length := by rw [List.length_take]; omega
  omega
theorem dg_bd {L : List Nat} (h : ∀ c ∈ L, c < 256) (i : Nat) : dg L i < 256 := by
  unfold dg
  cases e : L[i]? with
  | none => simp
  | some x => exact h x (List.mem_of_getElem? e)
theorem be0 (L : List Nat) : be (L.take 0) = 0 := by rw [List.take_zero]; rfl
end Go.Slip
namespace Go.Proofs.YtcipdimogodndaaDoor
open Go.RowKit Go.Slip

def numOfS (f : Fm) (s : ByteArray) : Nat := be (ordL f.ord (bytesOf s))
def GivesT (w : World) (g : Bool) (e x : Nat) (en : Ending) (w' : World) : Prop :=
  ∃ p c, en = .returned (.agg #[.bool g, .int .i64 (e : Int), .slice p (dig B32 x).length c]) ∧ Own w' w.heap.size .u32 91 p c (dig B32 x) ∧ Below w.heap.size w w'

theorem own_be0 (L : List Nat) (w : World) (b : Nat) : Own w b .u32 91 none 0 (dig B32 (be (L.take 0))) := by rw [be0, dig_zero]; exact Own.nil _ _ _ _

set_option maxRecDepth 100000 in
theorem split_any (f : Fm) (s : ByteArray) (w : World) (G : GoodF f) (hs : s.size = f.size) :
    Calls Tryd.prog 106 #[.agg #[.int .i64 ((f.size : Nat) : Int), .int .i64 ((f.E : Nat) : Int), .int .i64 ((f.F : Nat) : Int), .int .i64 f.g.rad, .int .i64 f.g.digs, .int .i64 f.g.lo, .int .i64 f.g.hi, .bool f.g.grad, .bool f.hid, .bool f.inf, .bool f.res, .func (.func (ordF f)) #[] #[]], .string s] w (GivesT w (f.neg (numOfS f s)) (f.exp (numOfS f s)) (f.frac (numOfS f s))) := by
  have z1 := G.sz
  have z2 := G.e2
  have z3 := G.f2
  have z4 := G.bits
  have hl0 : (bytesOf s).length = f.size := by rw [bytesOf_length, hs]
  have hlL : (ordL f.ord (bytesOf s)).length = f.size := by rw [ordL_len, hl0]
  have hbL := ordL_bytes (o := f.ord) (xs := bytesOf s) (fun _ => by omega) (bytesOf_lt s)
  have hord := fun (W : World) (base : Nat) (p : Option Addr) (c : Nat) h1 h2 => ord_any f base p s.size c (bytesOf s) W G h1 (bytesOf_length s).symm hl0 h2
  unfold numOfS
  generalize ordL f.ord (bytesOf s) = L at *
  have hNlt : be L < 2 ^ (8 * f.size) := by rw [← hlL]; exact be_lt L hbL
  have hst := fun i h => be_take_succ L i h
  have hlt := fun i => be_take_lt L i hbL (by omega)
  have hdg := dg_bd hbL
  have hfin : be (L.take f.size) = be L := by rw [List.take_of_length_le (by omega)]
  have hTlt : be L / 2 ^ f.F < 2 ^ (f.E + 1) := by
    rw [Nat.div_lt_iff_lt_mul (Nat.pow_pos (by omega)), ← Nat.pow_add, show f.E + 1 + f.F = 8 * f.size by omega]
    exact hNlt
  have hT16 : be L / 2 ^ f.F < 65536 := Nat.lt_of_lt_of_le hTlt (by rw [show (65536 : Nat) = 2 ^ 16 from rfl]; exact Nat.pow_le_pow_right (by omega) (by omega))
  have hN80 : be L < 2 ^ 80 := Nat.lt_of_lt_of_le hNlt (Nat.pow_le_pow_right (by omega) (by omega))
  have ef : f.frac (be L) = be L - be L / 2 ^ f.F * 2 ^ f.F := by
    unfold Fm.frac
    have := Nat.div_add_mod (be L) (2 ^ f.F)
    rw [Nat.mul_comm] at this
    omega
  have hle : be L / 2 ^ f.F * 2 ^ f.F ≤ be L := Nat.div_mul_le_self _ _
  have hlfr : (dig B32 (be L / 2 ^ f.F * 2 ^ f.F)).length ≤ 3 := dig_le_pow (Nat.lt_of_le_of_lt hle hN80) (by omega)
  rw [ef]
  unfold Fm.neg Fm.exp
  obtain ⟨T, hT⟩ : ∃ T, be L / 2 ^ f.F = T := ⟨_, rfl⟩
  rw [hT] at hTlt hT16 hle hlfr ⊢
  have hTl : (dig B32 T).length ≤ 1 := dig_le_pow (n := 32) (by omega) (by omega)
  have hT0 : (dig B32 T).length = 0 ↔ T = 0 := dig_len_zero B32_two T
  have hTd : 0 < (dig B32 T).length → dg (dig B32 T) 0 = T := fun h => by
    have h0 : 0 < T := by omega
    rw [dig_small B32_two h0 (by unfold B32; omega)]
    rfl
  have hla := fun i => dig_le_pow (hlt i) (k := 3) (by omega)
  have hlN := dig_le_pow hN80 (k := 3) (by omega)
  clear hNlt hlt hN80 ef hbL hl0
  have hsh := shl_one (E := f.E) (by omega)
  have h0T : 0 < 2 ^ f.E := Nat.pow_pos (by omega)
  have h0T2 : 2 ^ f.E ≤ 2 ^ 15 := Nat.pow_le_pow_right (by omega) (by omega)
  have hand := fun h => i64_and_low (x := T) (E := f.E) h (by omega)
  have hshr := shr_nat (x := T) (E := f.E) (by omega)
  have hand0 := fun h => i64_and_low (x := 0) (E := f.E) h (by omega)
  have hshr0 := shr_nat (x := 0) (E := f.E) (by omega)
  generalize hP : 2 ^ f.E = P at *
  have HAND := Lib.hid hand
  have HSHR := Lib.hid hshr
  have HAND0 := Lib.hid hand0
  have HSHR0 := Lib.hid hshr0
  have HSH := Lib.hid hsh
  have HFIN := Lib.hid hfin
  have HTT := Lib.hid hT
  clear hand hshr hand0 hshr0 hsh hfin hT
  have hT3 : SxOne Tryd.prog 3 := sxOne_of (by kernel_rfl) (by kernel_rfl)
  have hT114 : SxOne Tryd.prog 114 := sxOne_of (by kernel_rfl) (by kernel_rfl)
  have hT137 : SxAgg Tryd.prog 137 3 := sxAgg_of (by kernel_rfl) (by kernel_rfl)
  refine calls_of_wp Tryd.func106 rfl ?_
  refine sx_frame (a' := ⟨((.agg #[.int .i64 ((f.size : Nat) : Int), .int .i64 ((f.E : Nat) : Int), .int .i64 ((f.F : Nat) : Int), .int .i64 f.g.rad, .int .i64 f.g.digs, .int .i64 f.g.lo, .int .i64 f.g.hi, .bool f.g.grad, .bool f.hid, .bool f.inf, .bool f.res, .func (.func (ordF f)) #[] #[]]) :: (.string s) :: us 57 []).toArray, []⟩) (by kernel_rfl) ?_
  refine ye ?_
  refine yw 0 rfl 2 #[.int .i64 ((f.size : Nat) : Int), .int .i64 ((f.E : Nat) : Int), .int .i64 ((f.F : Nat) : Int), .int .i64 f.g.rad, .int .i64 f.g.digs, .int .i64 f.g.lo, .int .i64 f.g.hi, .bool f.g.grad, .bool f.hid, .bool f.inf, .bool f.res, .func (.func (ordF f)) #[] #[]] 116 (fun V1 hbV1 hzV1 b2 => ?_)
  refine yw 0 rfl 4 #[.bool false, .int .i64 0, .slice none 0 0] 137 (fun V2 hbV2 hzV2 b4 => ?_)
  refine yzt 0 ?_
  refine ye ?_
  refine yn 1 rfl ?_
  refine sby 12 uStr uBytes uByte s (fun p12 c12 V3 b12 hjV3 => ?_)
  have hbV3 : Below V2.heap.size V2 V3 := (Below.refl _ _).trans (hjV3.mono (by omega))
  have hzV3 := hbV3.size
  refine yzt 1 ?_
  refine ye ?_
  have b2_w3 := b2.past (bthru hbV2 hbV3)
  refine yl 1 rfl 14 b2_w3 hT114 11 ?_
  refine yn 1 rfl ?_
  refine se 16 (ordF f) #[.slice p12 s.size c12] (fun Gx hGx => ?_) (hr := exec_ord3 (ordF f) (ordF_is f) (by kernel_rfl) (by kernel_rfl))
  ((with_reducible refine (hord V3 V2.heap.size p12 c12 b12 (by omega)).mono ?_))
  rintro eV4 V4 ⟨rfl, x16, hjV4⟩
  have hbV4 : Below V2.heap.size V2 V4 := hbV3.trans (hjV4.mono (by omega))
  have hzV4 := hbV4.size
  refine ⟨.tuple #[], rfl, hGx _ _ ?_⟩
  clear hGx Gx
  refine yzt 0 ?_
  refine yq ?_
  refine wp_seq ?_
  refine ye ?_
  refine yv 1 rfl 18 (.int .i64 ((f.size : Nat) : Int)) ?_ (show _ = Result.ok (Next.value (.int .i64 ((f.size : Nat) : Int))) _ from by rw [← hs]; kernel_rfl)
  refine yzt 1 ?_
  refine wp_block ?_
  refine sx_frame (a' := ⟨((.agg #[.int .i64 ((f.size : Nat) : Int), .int .i64 ((f.E : Nat) : Int), .int .i64 ((f.F : Nat) : Int), .int .i64 f.g.rad, .int .i64 f.g.digs, .int .i64 f.g.lo, .int .i64 f.g.hi, .bool f.g.grad, .bool f.hid, .bool f.inf, .bool f.res, .func (.func (ordF f)) #[] #[]]) :: (.string s) :: (.pointer (some ⟨w.heap.size, 0, none⟩)) :: undef :: (.pointer (some ⟨V1.heap.size, 0, none⟩)) :: (.slice p12 s.size c12) :: (.slice none 0 0) :: us 4 ((.string s) :: (.slice p12 s.size c12) :: (.pointer (some ⟨w.heap.size, 11, none⟩)) :: (.func (.func (ordF f)) #[] #[]) :: (.slice p12 s.size c12) :: (.tuple #[]) :: (.slice p12 s.size c12) :: (.int .i64 ((f.size : Nat) : Int)) :: (.int .i64 0) :: us 39 [])).toArray, []⟩) (by kernel_rfl) ?_
  refine sx_loop2 (fun (gk : Nat) U0 a' w' => ∃ (i : Nat) (p6 : Option Addr) (c6 : Nat) (n6 : Nat), a' = ⟨((.agg #[.int .i64 ((f.size : Nat) : Int), .int .i64 ((f.E : Nat) : Int), .int .i64 ((f.F : Nat) : Int), .int .i64 f.g.rad, .int .i64 f.g.digs, .int .i64 f.g.lo, .int .i64 f.g.hi, .bool f.g.grad, .bool f.hid, .bool f.inf, .bool f.res, .func (.func (ordF f)) #[] #[]]) :: (.string s) :: (.pointer (some ⟨w.heap.size, 0, none⟩)) :: undef :: (.pointer (some ⟨V1.heap.size, 0, none⟩)) :: (.slice p12 s.size c12) :: (.slice p6 n6 c6) :: undef :: (U0 8) :: us 2 ((.string s) :: (.slice p12 s.size c12) :: (.pointer (some ⟨w.heap.size, 11, none⟩)) :: (.func (.func (ordF f)) #[] #[]) :: (.slice p12 s.size c12) :: (.tuple #[]) :: (.slice p12 s.size c12) :: (.int .i64 ((f.size : Nat) : Int)) :: (.int .i64 ((i : Nat) : Int)) :: uvs U0 20 10 (us 29 []))).toArray, []⟩ ∧ (Own w' V4.heap.size .u32 91 p6 c6 (dig B32 (be (L.take i)))) ∧ Below V4.heap.size V4 w' ∧ (n6 = (dig B32 (be (L.take i))).length) ∧ (gk + i = f.size)) f.size ?_ (fun Gx hGx => ?_)
  · skip
    exact ⟨0, none, 0, 0, by kernel_rfl, own_be0 L _ _, Below.refl _ _, by rw [be0, dig_zero]; rfl, (by omega)⟩
  rintro gk0 U0 _ V5 ⟨i, p6, c6, n6, rfl, o6, hbV5, hn6, hgk⟩
  refine hGx _ _ _ ?_
  clear hGx Gx
  have hzV5 := hbV5.size
  refine ye ?_
  rcases Bool.eq_false_or_eq_true (decide (((i : Nat) : Int) < ((f.size : Nat) : Int))) with f20 | f20
  · skip
    refine yb 0 rfl 20 (decide (((i : Nat) : Int) < ((f.size : Nat) : Int))) (true) (f20) ?_
    refine yzt 0 ?_
    refine yTs ?_
    refine wp_skip ?_
    refine sx_then ?_
    refine wp_seq ?_
    refine wp_block ?_
    refine ye ?_
    replace x16 := (x16.past hbV5)
    refine yv 0 rfl 21 (.pointer (some (at_ p12 i))) ?_ (exec_ix (p := p12) (n := s.size) (c := c12) (m := i) tyBytes (by have h := x16.rd.solid; rw [hlL, ← hs] at h; exact h) (by kernel_rfl) (by kernel_rfl) (by have := of_decide_eq_true f20; omega))
    refine yv 0 rfl 22 (.int .u8 ((dg L i : Nat) : Int)) ?_ (exec_ldr x16.rd ldByte (m := i) (by kernel_rfl) (by have := of_decide_eq_true f20; omega) rfl)
    refine yzt 1 ?_
    refine sx_region ?_
    refine yc 1 rfl 24 (sshl p6 _ c6 (be (L.take i)) 8 _ 8 V5 o6.rd hn6 (by have := hla i; omega) (by omega) rfl rfl) (fun Gx hGx => ?_)
    rintro eV6 V6 ⟨p24, c24, rfl, o24, hbV6⟩
    have hzV6 := hbV6.size
    refine ⟨_, rfl, hGx _ _ ?_⟩
    clear hGx Gx
    refine ya 1 rfl 26 .i64 ((dg L i : Nat) : Int) (((dg L i : Nat) : Int)) ((IntWalk.i64_in _ (by have := hdg i; omega))) ?_
    refine yc 0 rfl 27 (sof _ (dg L i) rfl (by have := hdg i; omega) V6) (fun Gx hGx => ?_)
    rintro eV7 V7 ⟨p27, c27, rfl, o27, hbV7⟩
    have hzV7 := hbV7.size
    refine ⟨_, rfl, hGx _ _ ?_⟩
    clear hGx Gx
    replace o24 := (o24.past hbV7)
    refine yc 0 rfl 28 (sadd p24 p27 _ _ c24 c27 (be (L.take i) * 2 ^ 8) (dg L i) (be (L.take (i + 1))) V7 o24.rd o27.rd rfl rfl (by have := dig_len_mono B32_two (show be (L.take i) * 2 ^ 8 ≤ be (L.take (i + 1)) by have := hst i (by have := of_decide_eq_true f20; omega); omega); have := hla (i + 1); omega) (by have := dig_len_mono B32_two (show dg L i ≤ be (L.take (i + 1)) by have := hst i (by have := of_decide_eq_true f20; omega); omega); have := hla (i + 1); omega) (hst i (by have := of_decide_eq_true f20; omega))) (fun Gx hGx => ?_)
    rintro eV8 V8 ⟨p28, c28, rfl, o28, hbV8⟩
    have hzV8 := hbV8.size
    refine ⟨_, rfl, hGx _ _ ?_⟩
    clear hGx Gx
    refine yz 1 ?_
    refine sx_inblock ?_
    refine sx_then ?_
    refine sx_region ?_
    refine ya 0 rfl 29 .i64 (((i : Nat) : Int) + 1) (((i + 1 : Nat) : Int)) ((by rw [show (((i : Nat) : Int) + 1) = ((i + 1 : Nat) : Int) by omega]; exact IntWalk.i64_in _ (by have := of_decide_eq_true f20; omega))) ?_
    refine yz 1 ?_
    refine sx_then ?_
    refine ⟨gk0 - 1, (by have := of_decide_eq_true f20; omega), ?_⟩
    exact ⟨i + 1, p28, c28, _, by kernel_rfl, o28.mono (by omega), (bthru (bthru (bthru hbV5 hbV6) hbV7) hbV8), rfl, (by have := of_decide_eq_true f20; omega)⟩
  refine yb 0 rfl 20 (decide (((i : Nat) : Int) < ((f.size : Nat) : Int))) (false) (f20) ?_
  refine yzt 0 ?_
  refine yFs ?_
  refine wp_exit ?_
  repeat (with_reducible refine sx_thenexit ?_)
  refine sx_exit (id := 0) ?_
  refine sx_then ?_
  have hi : i = f.size := by have := of_decide_eq_false f20; omega
  rw [hi, HFIN.out] at o6 hn6
  refine ye ?_
  have b2_w5 := b2.past (bthru (bthru hbV2 hbV4) hbV5)
  refine yl 2 rfl 32 b2_w5 hT3 2 ?_
  refine yc 0 rfl 33 (sshr p6 _ c6 (be L) f.F T _ V5 o6.rd hn6 (by have := o6.le_cap; omega) (by omega) (by omega) rfl HTT.out) (fun Gx hGx => ?_)
  rintro eV6 V6 ⟨p33, c33, rfl, o33, hbV6⟩
  have hzV6 := hbV6.size
  refine ⟨_, rfl, hGx _ _ ?_⟩
  clear hGx Gx
  refine yzt 1 ?_
  refine yq ?_
  refine wp_seq ?_
  refine ye ?_
  rcases Bool.eq_false_or_eq_true (decide ((((dig B32 T).length : Nat) : Int) > 0)) with f36 | f36
  · skip
    refine yb 2 rfl 36 (decide ((((dig B32 T).length : Nat) : Int) > 0)) (true) (f36) ?_
    refine yzt 0 ?_
    refine yT ?_
    refine sx_region ?_
    refine yv 1 rfl 38 (.pointer (some (at_ p33 0))) ?_ (exec_ix (p := p33) (n := (dig B32 T).length) (c := c33) (m := 0) tyNat o33.rd.solid (by kernel_rfl) (by kernel_rfl) (by have := of_decide_eq_true f36; omega))
    refine yv 0 rfl 39 (.int .u32 ((T : Nat) : Int)) ?_ (exec_ldr o33.rd ldU32 (m := 0) (by kernel_rfl) (by have := of_decide_eq_true f36; omega) (by rw [hTd (by have := of_decide_eq_true f36; omega)]))
    refine yi 0 rfl 40 ((T : Nat) : Int) ?_
    refine yz 1 ?_
    refine sx_then ?_
    refine wp_seq ?_
    have b2_w6 := b2.past (bthru (bthru (bthru hbV2 hbV4) hbV5) hbV6)
    obtain ⟨V7, hVV7, hbV7, hzV7⟩ := drew_of V6
    have b2_w7 := b2.past (bthru (bthru (bthru (bthru hbV2 hbV4) hbV5) hbV6) hbV7)
    refine yd1 hVV7 b2_w7 ?_
    clear hVV7
    refine yt 17 [0, 1] rfl b2_w7 ?_
    refine ytl 2 rfl 43 (fun _ h => h) hT3 1 b2_w7 ?_
    refine tk 3 44 (.int .i64 ((T / P : Nat) : Int)) b2_w7 ?_ (hy := fun w' _ => (exec_shr (X := ((T : Nat) : Int)) (Y := ((f.E : Nat) : Int)) (k2 := .i64) ((T / P : Nat) : Int) (by kernel_rfl) (by kernel_rfl) (Int.natCast_nonneg f.E) ((by first | exact HSHR.out | (rw [hT0.1 (by have := of_decide_eq_false f36; omega)]; exact HSHR0.out)))))
    refine tk 4 45 (.bool (T / P == 1)) b2_w7 ?_ (hy := fun w' _ => ((show _ = Result.ok (Next.value (.bool (((T / P : Nat) : Int) == 1))) _ from (by kernel_rfl)).trans (congrArg (fun z => Result.ok (Next.value (.bool z)) _) (show (((T / P : Nat) : Int) == 1) = ((T / P == 1)) from (by exact nat_beq_one _)))))
    refine yt 12 [5, 6] rfl b2_w7 ?_
    refine ytl 7 rfl 48 (fun _ h => h) hT3 1 b2_w7 ?_
    refine tk 8 49 (.int .i64 ((P : Nat) : Int)) b2_w7 ?_ (hy := fun w' _ => (exec_shl (X := (1)) (Y := ((f.E : Nat) : Int)) (k2 := .i64) ((P : Nat) : Int) (by kernel_rfl) (by kernel_rfl) (Int.natCast_nonneg f.E) ((HSH.out))))
    refine tk 9 50 (.int .i64 ((P - 1 : Nat) : Int)) b2_w7 ?_ (hy := fun w' _ => ((show _ = Result.ok (Next.value (.int .i64 (IntKind.wrap .i64 (((P : Nat) : Int) - 1)))) _ by kernel_rfl).trans (congrArg (fun z => Result.ok (Next.value (.int .i64 z)) _) ((by rw [show (((P : Nat) : Int) - 1) = ((P - 1 : Nat) : Int) by omega]; exact IntWalk.i64_in _ (by omega))))))
    refine tk 10 51 (.int .i64 ((T % P : Nat) : Int)) b2_w7 ?_ (hy := fun w' _ => (exec_and (X := ((T : Nat) : Int)) (Y := (((P - 1 : Nat) : Int))) ((T % P : Nat) : Int) (by kernel_rfl) (by kernel_rfl) ((by first | exact HAND.out (by omega) | (rw [hT0.1 (by have := of_decide_eq_false f36; omega)]; exact HAND0.out (by omega))))))
    refine yt 5 [11, 12, 13] rfl b2_w7 ?_
    refine ytl 14 rfl 55 (fun _ h => h) hT3 2 b2_w7 ?_
    refine sxr [15] ?_
    refine rd1 (fun Kx hKx => ?_)
    replace o33 := (o33.past hbV7)
    refine yck 56 (sshl p33 _ c33 T f.F (T * 2 ^ f.F) _ V7 o33.rd rfl (by omega) (by omega) rfl rfl) ?_
    rintro eV8 V8 ⟨p56, c56, rfl, o56, hbV8⟩
    have hzV8 := hbV8.size
    refine ⟨_, rfl, ?_⟩
    have b2_w8 := b2.past (bthru (bthru (bthru (bthru (bthru hbV2 hbV4) hbV5) hbV6) hbV7) hbV8)
    refine hKx.out _ _ b2_w8 ?_
    clear hKx Kx
    refine sxr [16] ?_
    refine rd1 (fun Kx hKx => ?_)
    replace o6 := (o6.past (bthru (bthru hbV6 hbV7) hbV8))
    refine yck 57 (ssub p6 p56 _ _ c6 c56 (be L) (T * 2 ^ f.F) (be L - T * 2 ^ f.F) V8 o6.rd o56.rd hn6 rfl (by omega) hle rfl) ?_
    rintro eV9 V9 ⟨p57, c57, rfl, o57, hbV9⟩
    have hzV9 := hbV9.size
    refine ⟨_, rfl, ?_⟩
    have b2_w9 := b2.past (bthru (bthru (bthru (bthru (bthru (bthru hbV2 hbV4) hbV5) hbV6) hbV7) hbV8) hbV9)
    refine hKx.out _ _ b2_w9 ?_
    clear hKx Kx
    refine yt 1 [17] rfl b2_w9 ?_
    refine sxr [18] ?_
    refine rd1 (fun Kx hKx => ?_)
    replace b4 := (b4.past (bthru (bthru (bthru (bthru (bthru hbV4 hbV5) hbV6) hbV7) hbV8) hbV9))
    refine ssk none b4 hT137 0 #[.bool (T / P == 1), .int .i64 ((T % P : Nat) : Int), .slice p57 (dig B32 (be L - T * 2 ^ f.F)).length c57] #[.bool (T / P == 1), .int .i64 ((T % P : Nat) : Int), .slice p57 (dig B32 (be L - T * 2 ^ f.F)).length c57] ?_
    have boV10 := b4
    clear b4
    intro V10 hOV10 b4
    have hzV10 := hOV10.size
    have b2_w10 := b2.past ((bthru (bthru (bthru (bthru (bthru (bthru hbV2 hbV4) hbV5) hbV6) hbV7) hbV8) hbV9).trans (hOV10.below (by omega)))
    refine hKx.out _ _ b2_w10 ?_
    clear hKx Kx
    refine sx_done (by kernel_rfl) ?_
    refine sx_then ?_
    refine wp_ret ?_
    repeat (first | with_reducible refine sx_thenret ?_ | with_reducible refine sx_blockret ?_)
    refine yret (.agg #[.bool (T / P == 1), .int .i64 ((T % P : Nat) : Int), .slice p57 (dig B32 (be L - T * 2 ^ f.F)).length c57]) (res1 Tryd.results106 (rvr b4 hT137)) ?_
    replace o57 := (o57.put boV10 hOV10 (by kernel_rfl))
    exact ⟨p57, c57, rfl, o57.mono (by omega), ((bthru (bthru (bthru (bthru (bthru (bthru (bthru hbV1 hbV2) hbV4) hbV5) hbV6) hbV7) hbV8) hbV9).trans (hOV10.below (by omega)))⟩
  refine yb 2 rfl 36 (decide ((((dig B32 T).length : Nat) : Int) > 0)) (false) (f36) ?_
  refine yzt 0 ?_
  refine yF ?_
  refine wp_skip ?_
  refine sx_then ?_
  refine wp_seq ?_
  have b2_w6 := b2.past (bthru (bthru (bthru hbV2 hbV4) hbV5) hbV6)
  obtain ⟨V7, hVV7, hbV7, hzV7⟩ := drew_of V6
  have b2_w7 := b2.past (bthru (bthru (bthru (bthru hbV2 hbV4) hbV5) hbV6) hbV7)
  refine yd1 hVV7 b2_w7 ?_
  clear hVV7
  refine yt 17 [0, 1] rfl b2_w7 ?_
  refine ytl 2 rfl 43 (fun _ h => h) hT3 1 b2_w7 ?_
  refine tk 3 44 (.int .i64 ((T / P : Nat) : Int)) b2_w7 ?_ (hy := fun w' _ => (exec_shr (X := (0)) (Y := ((f.E : Nat) : Int)) (k2 := .i64) ((T / P : Nat) : Int) (by kernel_rfl) (by kernel_rfl) (Int.natCast_nonneg f.E) ((by first | exact HSHR.out | (rw [hT0.1 (by have := of_decide_eq_false f36; omega)]; exact HSHR0.out)))))
  refine tk 4 45 (.bool (T / P == 1)) b2_w7 ?_ (hy := fun w' _ => ((show _ = Result.ok (Next.value (.bool (((T / P : Nat) : Int) == 1))) _ from (by kernel_rfl)).trans (congrArg (fun z => Result.ok (Next.value (.bool z)) _) (show (((T / P : Nat) : Int) == 1) = ((T / P == 1)) from (by exact nat_beq_one _)))))
  refine yt 12 [5, 6] rfl b2_w7 ?_
  refine ytl 7 rfl 48 (fun _ h => h) hT3 1 b2_w7 ?_
  refine tk 8 49 (.int .i64 ((P : Nat) : Int)) b2_w7 ?_ (hy := fun w' _ => (exec_shl (X := (1)) (Y := ((f.E : Nat) : Int)) (k2 := .i64) ((P : Nat) : Int) (by kernel_rfl) (by kernel_rfl) (Int.natCast_nonneg f.E) ((HSH.out))))
  refine tk 9 50 (.int .i64 ((P - 1 : Nat) : Int)) b2_w7 ?_ (hy := fun w' _ => ((show _ = Result.ok (Next.value (.int .i64 (IntKind.wrap .i64 (((P : Nat) : Int) - 1)))) _ by kernel_rfl).trans (congrArg (fun z => Result.ok (Next.value (.int .i64 z)) _) ((by rw [show (((P : Nat) : Int) - 1) = ((P - 1 : Nat) : Int) by omega]; exact IntWalk.i64_in _ (by omega))))))
  refine tk 10 51 (.int .i64 ((T % P : Nat) : Int)) b2_w7 ?_ (hy := fun w' _ => (exec_and (X := (0)) (Y := (((P - 1 : Nat) : Int))) ((T % P : Nat) : Int) (by kernel_rfl) (by kernel_rfl) ((by first | exact HAND.out (by omega) | (rw [hT0.1 (by have := of_decide_eq_false f36; omega)]; exact HAND0.out (by omega))))))
  refine yt 5 [11, 12, 13] rfl b2_w7 ?_
  refine ytl 14 rfl 55 (fun _ h => h) hT3 2 b2_w7 ?_
  refine sxr [15] ?_
  refine rd1 (fun Kx hKx => ?_)
  replace o33 := (o33.past hbV7)
  refine yck 56 (sshl p33 _ c33 T f.F (T * 2 ^ f.F) _ V7 o33.rd rfl (by omega) (by omega) rfl rfl) ?_
  rintro eV8 V8 ⟨p56, c56, rfl, o56, hbV8⟩
  have hzV8 := hbV8.size
  refine ⟨_, rfl, ?_⟩
  have b2_w8 := b2.past (bthru (bthru (bthru (bthru (bthru hbV2 hbV4) hbV5) hbV6) hbV7) hbV8)
  refine hKx.out _ _ b2_w8 ?_
  clear hKx Kx
  refine sxr [16] ?_
  refine rd1 (fun Kx hKx => ?_)
  replace o6 := (o6.past (bthru (bthru hbV6 hbV7) hbV8))
  refine yck 57 (ssub p6 p56 _ _ c6 c56 (be L) (T * 2 ^ f.F) (be L - T * 2 ^ f.F) V8 o6.rd o56.rd hn6 rfl (by omega) hle rfl) ?_
  rintro eV9 V9 ⟨p57, c57, rfl, o57, hbV9⟩
  have hzV9 := hbV9.size
  refine ⟨_, rfl, ?_⟩
  have b2_w9 := b2.past (bthru (bthru (bthru (bthru (bthru (bthru hbV2 hbV4) hbV5) hbV6) hbV7) hbV8) hbV9)
  refine hKx.out _ _ b2_w9 ?_
  clear hKx Kx
  refine yt 1 [17] rfl b2_w9 ?_
  refine sxr [18] ?_
  refine rd1 (fun Kx hKx => ?_)
  replace b4 := (b4.past (bthru (bthru (bthru (bthru (bthru hbV4 hbV5) hbV6) hbV7) hbV8) hbV9))
  refine ssk none b4 hT137 0 #[.bool (T / P == 1), .int .i64 ((T % P : Nat) : Int), .slice p57 (dig B32 (be L - T * 2 ^ f.F)).length c57] #[.bool (T / P == 1), .int .i64 ((T % P : Nat) : Int), .slice p57 (dig B32 (be L - T * 2 ^ f.F)).length c57] ?_
  have boV10 := b4
  clear b4
  intro V10 hOV10 b4
  have hzV10 := hOV10.size
  have b2_w10 := b2.past ((bthru (bthru (bthru (bthru (bthru (bthru hbV2 hbV4) hbV5) hbV6) hbV7) hbV8) hbV9).trans (hOV10.below (by omega)))
  refine hKx.out _ _ b2_w10 ?_
  clear hKx Kx
  refine sx_done (by kernel_rfl) ?_
  refine sx_then ?_
  refine wp_ret ?_
  repeat (first | with_reducible refine sx_thenret ?_ | with_reducible refine sx_blockret ?_)
  refine yret (.agg #[.bool (T / P == 1), .int .i64 ((T % P : Nat) : Int), .slice p57 (dig B32 (be L - T * 2 ^ f.F)).length c57]) (res1 Tryd.results106 (rvr b4 hT137)) ?_
  replace o57 := (o57.put boV10 hOV10 (by kernel_rfl))
  exact ⟨p57, c57, rfl, o57.mono (by omega), ((bthru (bthru (bthru (bthru (bthru (bthru (bthru hbV1 hbV2) hbV4) hbV5) hbV6) hbV7) hbV8) hbV9).trans (hOV10.below (by omega)))⟩

end Go.Proofs.YtcipdimogodndaaDoor

namespace Go.Slip
def LL (bs : List Nat) (i : Nat) : List Nat := bs.take i ++ List.replicate (bs.length - i) 0
theorem LL_len (bs : List Nat) (i : Nat) : (LL bs i).length = bs.length := by unfold LL; rw [List.length_append, List.length_take, List.length_replicate]; omega
theorem LL_zero (bs : List Nat) : LL bs 0 = List.replicate bs.length 0 := by unfold LL; rw [List.take_zero]; rfl
theorem LL_all (bs : List Nat) : LL bs bs.length = bs := by unfold LL; rw [List.take_length, Nat.sub_self]; simp
theorem dg_LL (bs : List Nat) (i j : Nat) : dg (LL bs i) j = if j < i then dg bs j else 0 := by
  unfold LL
  by_cases h : j < (bs.take i).length
  · rw [dg_append_lt h]
    have h2 : j < i := by rw [List.length_take] at h; omega
    rw [dg_take h2, if_pos h2]
  · rw [dg_append_ge (by omega), dg_replicate]
    split
    · rw [dg_of_ge]
      rw [List.length_take] at h
      omega
    · rfl
theorem LL_set (bs : List Nat) {i : Nat} (h : i < bs.length) : (LL bs i).set i (dg bs i) = LL bs (i + 1) := by
  refine ext_dg (by rw [List.length_set, LL_len, LL_len]) fun j hj => ?_
  rw [List.length_set, LL_len] at hj
  by_cases e : i = j
  · subst e
    rw [dg_set_same (by rw [LL_len]; exact h), dg_LL, if_pos (by omega)]
  · rw [dg_set_ne e, dg_LL, dg_LL]
    by_cases k : j < i
    · rw [if_pos k, if_pos (by omega)]
    · rw [if_neg k, if_neg (by omega)]
theorem LL_same (bs : List Nat) {i : Nat} (h0 : dg bs i = 0) : LL bs i = LL bs (i + 1) := by
  refine ext_dg (by rw [LL_len, LL_len]) fun j _ => ?_
  rw [dg_LL, dg_LL]
  by_cases e : j = i
  · subst e
    rw [if_neg (by omega), if_pos (by omega), h0]
  · by_cases k : j < i
    · rw [if_pos k, if_pos (by omega)]
    · rw [if_neg k, if_neg (by omega)]
theorem u8_wrap (n : Nat) : IntKind.u8.wrap (n : Int) = ((n % 256 : Nat) : Int) := by
  simp [IntKind.wrap, IntKind.signed, IntKind.bits]
theorem dg_dig0 (n : Nat) : dg (dig B32 n) 0 = n % 4294967296 := by
  rcases Nat.eq_zero_or_pos n with h | h
  · subst h; rw [dig_zero]; rfl
  · rw [dig_pos B32_two h]; rfl
section
open Go.RowKit
variable {P : Program} {ops : Array Oper} {Q : Exit → Act → World → Prop} {a : Act} {w : World} {rest : List Oper} {o : Oper}
theorem smkn (d : Nat) {x y : Operand} {t : TypeId} {e : TypeId} {k : IntKind} {bytes : Nat} (hty : SlTyV P t e (.int k 0) bytes) (n : Nat) (hb : n ≤ 4000000000)
    (h : ∀ p' c' w', Own w' w.heap.size k e p' c' (List.replicate n 0) → Below w.heap.size w w' → WpL P ops Q rest (a.put (some d) (.slice p' n c')) w')
    (hx : a.eval x = .int .i64 (n : Int) := by kernel_rfl) (hy : a.eval y = .int .i64 (n : Int) := by kernel_rfl)
    (ho : o.op = .makeSlice t x y := by rfl) (hd : o.dst = some d := by kernel_rfl)
    (hw : Region.wanted o (yielded ops a.tmps) = true := by kernel_rfl) : WpL P ops Q (o :: rest) a w :=
  wpList_of (opw_mk (some d) hd x y t ho hty .i64 .i64 n hx hy hb hw fun p' c' w' h1 h2 => h p' c' w' (own_of_v (by rw [List.map_replicate]; exact h1)) h2)
theorem smkv (d : Nat) {x y : Operand} {t : TypeId} {e : TypeId} {z : Value} {bytes : Nat} (hty : SlTyV P t e z bytes) (n : Nat) (hb : n ≤ 4000000000)
    (h : ∀ p' c' w', OwnV w' w.heap.size e p' c' (List.replicate n z) → Below w.heap.size w w' → WpL P ops Q rest (a.put (some d) (.slice p' n c')) w')
    (hx : a.eval x = .int .i64 (n : Int) := by kernel_rfl) (hy : a.eval y = .int .i64 (n : Int) := by kernel_rfl)
    (ho : o.op = .makeSlice t x y := by rfl) (hd : o.dst = some d := by kernel_rfl)
    (hw : Region.wanted o (yielded ops a.tmps) = true := by kernel_rfl) : WpL P ops Q (o :: rest) a w :=
  wpList_of (opw_mk (some d) hd x y t ho hty .i64 .i64 n hx hy hb hw h)
end
end Go.Slip
namespace Go.Proofs.YtcipdimogodndaaDoor
open Go.RowKit Go.Slip

set_option maxHeartbeats 1000000 in
set_option maxRecDepth 100000 in
theorem join_any (f : Fm) (g : Bool) (e x : Nat) (p : Option Addr) (c : Nat) (w : World) (G : GoodF f) (hp : Rd w .u32 p (dig B32 x)) (he : e < 2 ^ f.E) (hx : x < 2 ^ f.F) :
    Calls Tryd.prog 75 #[.agg #[.int .i64 ((f.size : Nat) : Int), .int .i64 ((f.E : Nat) : Int), .int .i64 ((f.F : Nat) : Int), .int .i64 f.g.rad, .int .i64 f.g.digs, .int .i64 f.g.lo, .int .i64 f.g.hi, .bool f.g.grad, .bool f.hid, .bool f.inf, .bool f.res, .func (.func (ordF f)) #[] #[]], .agg #[.bool g, .int .i64 ((e : Nat) : Int), .slice p (dig B32 x).length c]] w fun en w' => en = .returned (.string (strOf (f.str g e x))) ∧ Below w.heap.size w w' := by
  have z1 := G.sz
  have z2 := G.e2
  have z3 := G.f2
  have z4 := G.bits
  have hlt := pat_lt G (neg := g) he hx
  have hxl := dig_le_pow hx (k := 2) (by omega)
  have hT : g.toNat * 2 ^ f.E + e < 2 ^ 16 := by
    have h1 : 2 ^ f.E ≤ 2 ^ 15 := Nat.pow_le_pow_right (by omega) (by omega)
    cases g <;> simp <;> omega
  have hpw : 2 ^ f.E ≤ 2 ^ 15 := Nat.pow_le_pow_right (by omega) (by omega)
  have hsh := shl_one (E := f.E) (by omega)
  have hor := i64_or_top (x := e) (E := f.E) he (by omega)
  have h80 : f.pat g e x < 2 ^ 80 := Nat.lt_of_lt_of_le hlt (Nat.pow_le_pow_right (by omega) (by omega))
  unfold Fm.str
  have hpe : f.pat g e x = (g.toNat * 2 ^ f.E + e) * 2 ^ f.F + x := rfl
  have hord := fun (W : World) (base : Nat) (p : Option Addr) (c : Nat) (xs : List Nat) h1 h2 h3 => ord_any f base p f.size c xs W G h1 h2.symm h2 h3
  generalize hNN : f.pat g e x = NN at *
  have hbl : (bytesN NN f.size).length = f.size := bytesN_len _ _
  have hdg := fun i h => dg_bytesN f.size NN i h
  have hbs := fun i h => LL_set (bytesN NN f.size) (i := i) h
  have hbz := fun i h => LL_same (bytesN NN f.size) (i := i) h
  have hball := LL_all (bytesN NN f.size)
  have hb0 := LL_zero (bytesN NN f.size)
  have hLl := LL_len (bytesN NN f.size)
  rw [hbl] at hball hb0
  generalize bytesN NN f.size = bs at *
  generalize h2E : 2 ^ f.E = P at *
  have hNl := dig_le_pow h80 (k := 3) (by omega)
  have hTl : (dig B32 ((g.toNat * P + e) * 2 ^ f.F)).length ≤ 3 := dig_le_pow (n := 80) (by omega) (by omega)
  have hQl : ∀ N, (dig B32 (NN / 2 ^ N)).length ≤ 3 := fun N => dig_le_pow (n := 80) (Nat.lt_of_le_of_lt (Nat.div_le_self _ _) h80) (by omega)
  have HSH := Lib.hid hsh
  have HOR := Lib.hid hor
  have HPE := Lib.hid hpe
  have HB0 := Lib.hid hb0
  clear hsh hor hpe hb0 hlt h80 hNN h2E
  have hT3 : SxOne Tryd.prog 3 := sxOne_of (by kernel_rfl) (by kernel_rfl)
  have hT4 : SxOne Tryd.prog 4 := sxOne_of (by kernel_rfl) (by kernel_rfl)
  have hT23 : SxOne Tryd.prog 23 := sxOne_of (by kernel_rfl) (by kernel_rfl)
  have hT114 : SxOne Tryd.prog 114 := sxOne_of (by kernel_rfl) (by kernel_rfl)
  refine calls_of_wp Tryd.func75 rfl ?_
  refine sx_frame (a' := ⟨((.agg #[.int .i64 ((f.size : Nat) : Int), .int .i64 ((f.E : Nat) : Int), .int .i64 ((f.F : Nat) : Int), .int .i64 f.g.rad, .int .i64 f.g.digs, .int .i64 f.g.lo, .int .i64 f.g.hi, .bool f.g.grad, .bool f.hid, .bool f.inf, .bool f.res, .func (.func (ordF f)) #[] #[]]) :: (.agg #[.bool g, .int .i64 ((e : Nat) : Int), .slice p (dig B32 x).length c]) :: us 58 []).toArray, []⟩) (by kernel_rfl) ?_
  refine ye ?_
  refine yw 0 rfl 2 #[.int .i64 ((f.size : Nat) : Int), .int .i64 ((f.E : Nat) : Int), .int .i64 ((f.F : Nat) : Int), .int .i64 f.g.rad, .int .i64 f.g.digs, .int .i64 f.g.lo, .int .i64 f.g.hi, .bool f.g.grad, .bool f.hid, .bool f.inf, .bool f.res, .func (.func (ordF f)) #[] #[]] 116 (fun V1 hbV1 hzV1 b2 => ?_)
  refine yw 0 rfl 3 #[.bool g, .int .i64 ((e : Nat) : Int), .slice p (dig B32 x).length c] 137 (fun V2 hbV2 hzV2 b3 => ?_)
  refine yzt 1 ?_
  refine ye ?_
  refine yl 1 rfl 11 b3 hT3 1 ?_
  refine yzt 1 ?_
  refine wp_seq ?_
  refine ye ?_
  rcases Bool.eq_false_or_eq_true (g) with f13 | f13
  · skip
    refine ylb 1 rfl 13 b3 hT4 0 (g) true (f13) ?_
    refine yzt 0 ?_
    refine yT ?_
    refine sx_region ?_
    have b2_w2 := b2.past hbV2
    refine yl 2 rfl 16 b2_w2 hT3 1 ?_
    refine yv 0 rfl 17 (.int .i64 ((P : Nat) : Int)) ?_ (exec_shl (X := (1)) (Y := ((f.E : Nat) : Int)) (k2 := .i64) ((P : Nat) : Int) (by kernel_rfl) (by kernel_rfl) (by omega) ((HSH.out)))
    refine yv 0 rfl 18 (.int .i64 ((P + e : Nat) : Int)) ?_ (exec_or (X := ((e : Nat) : Int)) (Y := (((P : Nat) : Int))) ((P + e : Nat) : Int) (by kernel_rfl) (by kernel_rfl) ((HOR.out)))
    refine yz 1 ?_
    refine sx_then ?_
    refine wp_seq ?_
    obtain ⟨V3, hVV3, hbV3, hzV3⟩ := drew_of V2
    have b2_w3 := b2.past (bthru hbV2 hbV3)
    replace b3 := (b3.past hbV3)
    refine yd2 hVV3 ⟨b2_w3, b3⟩ ?_
    clear hVV3
    refine yt 7 [0, 2] rfl ⟨b2_w3, b3⟩ ?_
    refine ytl 3 rfl 22 (fun _ h => h.1) hT3 2 ⟨b2_w3, b3⟩ ?_
    refine yt 5 [5] rfl ⟨b2_w3, b3⟩ ?_
    refine ytl 6 rfl 25 (fun _ h => h.2) hT23 2 ⟨b2_w3, b3⟩ ?_
    refine sxr [1] ?_
    refine rd1 (fun Kx hKx => ?_)
    refine yck 20 (sof ((P + e : Nat) : Int) (g.toNat * P + e) (by rw [f13, Bool.toNat_true, Nat.one_mul]) (by omega) V3) ?_
    rintro eV4 V4 ⟨p20, c20, rfl, o20, hbV4⟩
    have hzV4 := hbV4.size
    refine ⟨_, rfl, ?_⟩
    have b2_w4 := b2.past (bthru (bthru hbV2 hbV3) hbV4)
    replace b3 := (b3.past hbV4)
    refine hKx.out _ _ ⟨b2_w4, b3⟩ ?_
    clear hKx Kx
    refine sxr [4] ?_
    refine rd1 (fun Kx hKx => ?_)
    refine yck 23 (sshl p20 _ c20 (g.toNat * P + e) f.F ((g.toNat * P + e) * 2 ^ f.F) _ V4 o20.rd rfl (by have := dig_le_pow hT (k := 1) (by omega); omega) (by omega) rfl rfl) ?_
    rintro eV5 V5 ⟨p23, c23, rfl, o23, hbV5⟩
    have hzV5 := hbV5.size
    refine ⟨_, rfl, ?_⟩
    have b2_w5 := b2.past (bthru (bthru (bthru hbV2 hbV3) hbV4) hbV5)
    replace b3 := (b3.past hbV5)
    refine hKx.out _ _ ⟨b2_w5, b3⟩ ?_
    clear hKx Kx
    refine sxr [7] ?_
    refine rd1 (fun Kx hKx => ?_)
    replace hp := (hp.past (bthru (bthru (bthru (bthru hbV1 hbV2) hbV3) hbV4) hbV5))
    refine yck 26 (sadd p23 p _ _ c23 c ((g.toNat * P + e) * 2 ^ f.F) x NN V5 o23.rd hp rfl rfl (by omega) (by omega) HPE.out.symm) ?_
    rintro eV6 V6 ⟨p26, c26, rfl, o26, hbV6⟩
    have hzV6 := hbV6.size
    refine ⟨_, rfl, ?_⟩
    have b2_w6 := b2.past (bthru (bthru (bthru (bthru hbV2 hbV3) hbV4) hbV5) hbV6)
    replace b3 := (b3.past hbV6)
    refine hKx.out _ _ ⟨b2_w6, b3⟩ ?_
    clear hKx Kx
    refine yt 0 [8] rfl ⟨b2_w6, b3⟩ ?_
    refine sx_done (by kernel_rfl) ?_
    refine sx_then ?_
    refine ye ?_
    refine yl 1 rfl 28 b2_w6 hT3 0 ?_
    refine smkn 29 tvBytes f.size (by omega) (fun p29 c29 V7 b29 hjV7 => ?_)
    have hbV7 : Below V6.heap.size V6 V7 := (Below.refl _ _).trans (hjV7.mono (by omega))
    have hzV7 := hbV7.size
    refine yzt 1 ?_
    refine wp_seq ?_
    refine yq ?_
    refine wp_block ?_
    refine sx_frame (a' := ⟨((.agg #[.int .i64 ((f.size : Nat) : Int), .int .i64 ((f.E : Nat) : Int), .int .i64 ((f.F : Nat) : Int), .int .i64 f.g.rad, .int .i64 f.g.digs, .int .i64 f.g.lo, .int .i64 f.g.hi, .bool f.g.grad, .bool f.hid, .bool f.inf, .bool f.res, .func (.func (ordF f)) #[] #[]]) :: (.agg #[.bool g, .int .i64 ((e : Nat) : Int), .slice p (dig B32 x).length c]) :: (.pointer (some ⟨w.heap.size, 0, none⟩)) :: (.pointer (some ⟨V1.heap.size, 0, none⟩)) :: (Go.Value.string (ByteArray.mk #[])) :: (.int .i64 ((P + e : Nat) : Int)) :: (.slice p26 (dig B32 NN).length c26) :: (.slice p29 f.size c29) :: us 2 ((.pointer (some ⟨V1.heap.size, 1, none⟩)) :: (.int .i64 ((e : Nat) : Int)) :: (.pointer (some ⟨V1.heap.size, 0, none⟩)) :: (.bool true) :: (.int .i64 ((e : Nat) : Int)) :: (.pointer (some ⟨w.heap.size, 1, none⟩)) :: (.int .i64 ((f.E : Nat) : Int)) :: (.int .i64 ((P : Nat) : Int)) :: (.int .i64 ((P + e : Nat) : Int)) :: (.int .i64 ((P + e : Nat) : Int)) :: (.slice p20 (dig B32 (g.toNat * P + e)).length c20) :: (.pointer (some ⟨w.heap.size, 2, none⟩)) :: (.int .i64 ((f.F : Nat) : Int)) :: (.slice p23 (dig B32 ((g.toNat * P + e) * 2 ^ f.F)).length c23) :: (.pointer (some ⟨V1.heap.size, 2, none⟩)) :: (.slice p (dig B32 x).length c) :: (.slice p26 (dig B32 NN).length c26) :: (.pointer (some ⟨w.heap.size, 0, none⟩)) :: (.int .i64 ((f.size : Nat) : Int)) :: (.slice p29 f.size c29) :: (.slice p29 f.size c29) :: (.int .i64 ((f.size : Nat) : Int)) :: (.int .i64 0) :: us 27 [])).toArray, []⟩) (by kernel_rfl) ?_
    refine sx_loop2 (fun (gk : Nat) U0 a' w' => ∃ (i : Nat), a' = ⟨((.agg #[.int .i64 ((f.size : Nat) : Int), .int .i64 ((f.E : Nat) : Int), .int .i64 ((f.F : Nat) : Int), .int .i64 f.g.rad, .int .i64 f.g.digs, .int .i64 f.g.lo, .int .i64 f.g.hi, .bool f.g.grad, .bool f.hid, .bool f.inf, .bool f.res, .func (.func (ordF f)) #[] #[]]) :: (.agg #[.bool g, .int .i64 ((e : Nat) : Int), .slice p (dig B32 x).length c]) :: (.pointer (some ⟨w.heap.size, 0, none⟩)) :: (.pointer (some ⟨V1.heap.size, 0, none⟩)) :: (Go.Value.string (ByteArray.mk #[])) :: (.int .i64 ((P + e : Nat) : Int)) :: (.slice p26 (dig B32 NN).length c26) :: (.slice p29 f.size c29) :: uvs U0 8 2 ((.pointer (some ⟨V1.heap.size, 1, none⟩)) :: (.int .i64 ((e : Nat) : Int)) :: (.pointer (some ⟨V1.heap.size, 0, none⟩)) :: (.bool true) :: (.int .i64 ((e : Nat) : Int)) :: (.pointer (some ⟨w.heap.size, 1, none⟩)) :: (.int .i64 ((f.E : Nat) : Int)) :: (.int .i64 ((P : Nat) : Int)) :: (.int .i64 ((P + e : Nat) : Int)) :: (.int .i64 ((P + e : Nat) : Int)) :: (.slice p20 (dig B32 (g.toNat * P + e)).length c20) :: (.pointer (some ⟨w.heap.size, 2, none⟩)) :: (.int .i64 ((f.F : Nat) : Int)) :: (.slice p23 (dig B32 ((g.toNat * P + e) * 2 ^ f.F)).length c23) :: (.pointer (some ⟨V1.heap.size, 2, none⟩)) :: (.slice p (dig B32 x).length c) :: (.slice p26 (dig B32 NN).length c26) :: (.pointer (some ⟨w.heap.size, 0, none⟩)) :: (.int .i64 ((f.size : Nat) : Int)) :: (.slice p29 f.size c29) :: (.slice p29 f.size c29) :: (.int .i64 ((f.size : Nat) : Int)) :: (.int .i64 ((i : Nat) : Int)) :: uvs U0 33 21 (us 6 []))).toArray, []⟩ ∧ (Own w' V6.heap.size .u8 5 p29 c29 (LL bs i)) ∧ Below V6.heap.size V6 w' ∧ (gk + i = f.size)) f.size ?_ (fun Gx hGx => ?_)
    · skip
      exact ⟨0, by kernel_rfl, (by rw [HB0.out]; exact b29), hbV7, (by omega)⟩
    rintro gk0 U0 _ V8 ⟨i, rfl, r29, hbV8, hgk⟩
    refine hGx _ _ _ ?_
    clear hGx Gx
    have hzV8 := hbV8.size
    refine ye ?_
    rcases Bool.eq_false_or_eq_true (decide (((i : Nat) : Int) < ((f.size : Nat) : Int))) with f33 | f33
    · skip
      refine yb 0 rfl 33 (decide (((i : Nat) : Int) < ((f.size : Nat) : Int))) (true) (f33) ?_
      refine yzt 0 ?_
      refine yTs ?_
      refine wp_skip ?_
      refine sx_then ?_
      refine wp_seq ?_
      refine wp_block ?_
      refine yq ?_
      refine ye ?_
      have b2_w8 := b2.past (bthru (bthru (bthru (bthru (bthru hbV2 hbV3) hbV4) hbV5) hbV6) hbV8)
      refine yl 2 rfl 37 b2_w8 hT3 0 ?_
      refine ya 0 rfl 38 .i64 (((f.size : Nat) : Int) - 1) (((f.size - 1 : Nat) : Int)) ((by rw [show (((f.size : Nat) : Int) - 1) = ((f.size - 1 : Nat) : Int) by omega]; exact IntWalk.i64_in _ (by omega))) ?_
      refine ya 1 rfl 40 .i64 (((f.size - 1 : Nat) : Int) - ((i : Nat) : Int)) (((f.size - 1 - i : Nat) : Int)) ((by rw [show (((f.size - 1 : Nat) : Int) - ((i : Nat) : Int)) = ((f.size - 1 - i : Nat) : Int) by have := of_decide_eq_true f33; omega]; exact IntWalk.i64_in _ (by omega))) ?_
      refine ya 0 rfl 41 .i64 ((8 : Int) * ((f.size - 1 - i : Nat) : Int)) (((8 * (f.size - 1 - i) : Nat) : Int)) ((by rw [show ((8 : Int) * ((f.size - 1 - i : Nat) : Int)) = ((8 * (f.size - 1 - i) : Nat) : Int) by omega]; exact IntWalk.i64_in _ (by omega))) ?_
      have o26_w8 := o26.past hbV8
      refine yc 0 rfl 42 (sshr p26 _ c26 NN (8 * (f.size - 1 - i)) (NN / 2 ^ (8 * (f.size - 1 - i))) _ V8 o26_w8.rd rfl (by have := o26_w8.le_cap; omega) (by omega) (by omega) rfl rfl) (fun Gx hGx => ?_)
      rintro eV9 V9 ⟨p42, c42, rfl, o42, hbV9⟩
      have hzV9 := hbV9.size
      refine ⟨_, rfl, hGx _ _ ?_⟩
      clear hGx Gx
      refine yzt 1 ?_
      have hi := of_decide_eq_true f33
      have hdi := hdg i (by omega)
      have hq0 := dig_len_zero B32_two (NN / 2 ^ (8 * (f.size - 1 - i)))
      refine ye ?_
      rcases Bool.eq_false_or_eq_true (decide ((((dig B32 (NN / 2 ^ (8 * (f.size - 1 - i)))).length : Nat) : Int) > 0)) with f45 | f45
      · skip
        refine yb 2 rfl 45 (decide ((((dig B32 (NN / 2 ^ (8 * (f.size - 1 - i)))).length : Nat) : Int) > 0)) (true) (f45) ?_
        refine yzt 0 ?_
        refine yT ?_
        refine sx_region ?_
        refine yv 3 rfl 49 (.pointer (some (at_ p42 0))) ?_ (exec_ix (p := p42) (n := (dig B32 (NN / 2 ^ (8 * (f.size - 1 - i)))).length) (c := c42) (m := 0) tyNat o42.rd.solid (by kernel_rfl) (by kernel_rfl) (by have := of_decide_eq_true f45; omega))
        refine yv 0 rfl 50 (.int .u32 ((dg (dig B32 (NN / 2 ^ (8 * (f.size - 1 - i)))) 0 : Nat) : Int)) ?_ (exec_ldr o42.rd ldU32 (m := 0) (by kernel_rfl) (by have := of_decide_eq_true f45; omega) rfl)
        refine ya 0 rfl 51 .u8 ((dg (dig B32 (NN / 2 ^ (8 * (f.size - 1 - i)))) 0 : Nat) : Int) (((dg bs i : Nat) : Int)) ((by rw [u8_wrap, dg_dig0, hdi]; congr 1; exact Nat.mod_mod_of_dvd _ (by decide))) ?_
        replace r29 := (r29.past hbV9)
        refine yv 0 rfl 52 (.pointer (some (at_ p29 i))) ?_ (exec_ixv (p := p29) (n := f.size) (c := c29) (m := i) tvBytes (by have h := r29.solid; rw [hLl, hbl] at h; exact h) (by kernel_rfl) (by kernel_rfl) (by omega))
        refine sputn tvBytes V6.heap.size p29 c29 _ r29 i (by rw [hLl, hbl]; omega) (dg bs i) (fun V10 n29 hjV10 => ?_)
        have hbV10 : Below V6.heap.size V6 V10 := (bthru hbV8 hbV9).trans (hjV10.mono (by omega))
        have hzV10 := hbV10.size
        refine yz 0 ?_
        refine sx_inblock ?_
        refine sx_then ?_
        refine sx_region ?_
        refine ya 0 rfl 53 .i64 (((i : Nat) : Int) + 1) (((i + 1 : Nat) : Int)) ((by rw [show (((i : Nat) : Int) + 1) = ((i + 1 : Nat) : Int) by omega]; exact IntWalk.i64_in _ (by omega))) ?_
        refine yz 1 ?_
        refine sx_then ?_
        refine ⟨gk0 - 1, (by omega), ?_⟩
        exact ⟨i + 1, by kernel_rfl, (by rw [← hbs i (by omega)]; exact n29), hbV10, (by omega)⟩
      refine yb 2 rfl 45 (decide ((((dig B32 (NN / 2 ^ (8 * (f.size - 1 - i)))).length : Nat) : Int) > 0)) (false) (f45) ?_
      refine yzt 0 ?_
      refine yF ?_
      refine wp_skip ?_
      refine sx_inblock ?_
      refine sx_then ?_
      refine sx_region ?_
      refine ya 0 rfl 53 .i64 (((i : Nat) : Int) + 1) (((i + 1 : Nat) : Int)) ((by rw [show (((i : Nat) : Int) + 1) = ((i + 1 : Nat) : Int) by omega]; exact IntWalk.i64_in _ (by omega))) ?_
      refine yz 1 ?_
      refine sx_then ?_
      refine ⟨gk0 - 1, (by omega), ?_⟩
      replace r29 := (r29.past hbV9)
      exact ⟨i + 1, by kernel_rfl, (by rw [← hbz i (by rw [hdi, hq0.1 (by have := of_decide_eq_false f45; omega)])]; exact r29), (bthru hbV8 hbV9), (by omega)⟩
    refine yb 0 rfl 33 (decide (((i : Nat) : Int) < ((f.size : Nat) : Int))) (false) (f33) ?_
    refine yzt 0 ?_
    refine yFs ?_
    refine wp_exit ?_
    repeat (with_reducible refine sx_thenexit ?_)
    refine sx_exit (id := 0) ?_
    refine sx_then ?_
    have hi : i = f.size := by have := of_decide_eq_false f33; omega
    rw [hi, hball] at r29
    refine ye ?_
    have b2_w8 := b2.past (bthru (bthru (bthru (bthru (bthru hbV2 hbV3) hbV4) hbV5) hbV6) hbV8)
    refine yl 1 rfl 55 b2_w8 hT114 11 ?_
    refine yn 1 rfl ?_
    refine se 57 (ordF f) #[.slice p29 f.size c29] (fun Gx hGx => ?_) (hr := exec_ord3 (ordF f) (ordF_is f) (by kernel_rfl) (by kernel_rfl))
    ((with_reducible refine (hord V8 V6.heap.size p29 c29 bs r29.wr hbl (by omega)).mono ?_))
    rintro eV9 V9 ⟨rfl, x57, hjV9⟩
    have hbV9 : Below V6.heap.size V6 V9 := hbV8.trans (hjV9.mono (by omega))
    have hzV9 := hbV9.size
    refine ⟨.tuple #[], rfl, hGx _ _ ?_⟩
    clear hGx Gx
    refine yzt 0 ?_
    refine ye ?_
    refine yv 1 rfl 59 (.string (strOf (ordL f.ord bs))) ?_ (exec_str (p := p29) (n := f.size) (c := c29) uBytes uByte uStr x57.rd (by rw [ordL_len, hbl]) (by kernel_rfl))
    refine yzt 1 ?_
    refine wp_ret ?_
    repeat (first | with_reducible refine sx_thenret ?_ | with_reducible refine sx_blockret ?_)
    refine yret (.string (strOf (ordL f.ord bs))) (res1 Tryd.results75 rvt) ?_
    exact ⟨rfl, (bthru (bthru (bthru (bthru (bthru (bthru hbV1 hbV2) hbV3) hbV4) hbV5) hbV6) hbV9)⟩
  refine ylb 1 rfl 13 b3 hT4 0 (g) false (f13) ?_
  refine yzt 0 ?_
  refine yF ?_
  refine wp_skip ?_
  refine sx_then ?_
  refine wp_seq ?_
  have b2_w2 := b2.past hbV2
  obtain ⟨V3, hVV3, hbV3, hzV3⟩ := drew_of V2
  have b2_w3 := b2.past (bthru hbV2 hbV3)
  replace b3 := (b3.past hbV3)
  refine yd2 hVV3 ⟨b2_w3, b3⟩ ?_
  clear hVV3
  refine yt 7 [0, 2] rfl ⟨b2_w3, b3⟩ ?_
  refine ytl 3 rfl 22 (fun _ h => h.1) hT3 2 ⟨b2_w3, b3⟩ ?_
  refine yt 5 [5] rfl ⟨b2_w3, b3⟩ ?_
  refine ytl 6 rfl 25 (fun _ h => h.2) hT23 2 ⟨b2_w3, b3⟩ ?_
  refine sxr [1] ?_
  refine rd1 (fun Kx hKx => ?_)
  refine yck 20 (sof ((e : Nat) : Int) (g.toNat * P + e) (by rw [f13, Bool.toNat_false, Nat.zero_mul, Nat.zero_add]) (by omega) V3) ?_
  rintro eV4 V4 ⟨p20, c20, rfl, o20, hbV4⟩
  have hzV4 := hbV4.size
  refine ⟨_, rfl, ?_⟩
  have b2_w4 := b2.past (bthru (bthru hbV2 hbV3) hbV4)
  replace b3 := (b3.past hbV4)
  refine hKx.out _ _ ⟨b2_w4, b3⟩ ?_
  clear hKx Kx
  refine sxr [4] ?_
  refine rd1 (fun Kx hKx => ?_)
  refine yck 23 (sshl p20 _ c20 (g.toNat * P + e) f.F ((g.toNat * P + e) * 2 ^ f.F) _ V4 o20.rd rfl (by have := dig_le_pow hT (k := 1) (by omega); omega) (by omega) rfl rfl) ?_
  rintro eV5 V5 ⟨p23, c23, rfl, o23, hbV5⟩
  have hzV5 := hbV5.size
  refine ⟨_, rfl, ?_⟩
  have b2_w5 := b2.past (bthru (bthru (bthru hbV2 hbV3) hbV4) hbV5)
  replace b3 := (b3.past hbV5)
  refine hKx.out _ _ ⟨b2_w5, b3⟩ ?_
  clear hKx Kx
  refine sxr [7] ?_
  refine rd1 (fun Kx hKx => ?_)
  replace hp := (hp.past (bthru (bthru (bthru (bthru hbV1 hbV2) hbV3) hbV4) hbV5))
  refine yck 26 (sadd p23 p _ _ c23 c ((g.toNat * P + e) * 2 ^ f.F) x NN V5 o23.rd hp rfl rfl (by omega) (by omega) HPE.out.symm) ?_
  rintro eV6 V6 ⟨p26, c26, rfl, o26, hbV6⟩
  have hzV6 := hbV6.size
  refine ⟨_, rfl, ?_⟩
  have b2_w6 := b2.past (bthru (bthru (bthru (bthru hbV2 hbV3) hbV4) hbV5) hbV6)
  replace b3 := (b3.past hbV6)
  refine hKx.out _ _ ⟨b2_w6, b3⟩ ?_
  clear hKx Kx
  refine yt 0 [8] rfl ⟨b2_w6, b3⟩ ?_
  refine sx_done (by kernel_rfl) ?_
  refine sx_then ?_
  refine ye ?_
  refine yl 1 rfl 28 b2_w6 hT3 0 ?_
  refine smkn 29 tvBytes f.size (by omega) (fun p29 c29 V7 b29 hjV7 => ?_)
  have hbV7 : Below V6.heap.size V6 V7 := (Below.refl _ _).trans (hjV7.mono (by omega))
  have hzV7 := hbV7.size
  refine yzt 1 ?_
  refine wp_seq ?_
  refine yq ?_
  refine wp_block ?_
  refine sx_frame (a' := ⟨((.agg #[.int .i64 ((f.size : Nat) : Int), .int .i64 ((f.E : Nat) : Int), .int .i64 ((f.F : Nat) : Int), .int .i64 f.g.rad, .int .i64 f.g.digs, .int .i64 f.g.lo, .int .i64 f.g.hi, .bool f.g.grad, .bool f.hid, .bool f.inf, .bool f.res, .func (.func (ordF f)) #[] #[]]) :: (.agg #[.bool g, .int .i64 ((e : Nat) : Int), .slice p (dig B32 x).length c]) :: (.pointer (some ⟨w.heap.size, 0, none⟩)) :: (.pointer (some ⟨V1.heap.size, 0, none⟩)) :: (Go.Value.string (ByteArray.mk #[])) :: (.int .i64 ((e : Nat) : Int)) :: (.slice p26 (dig B32 NN).length c26) :: (.slice p29 f.size c29) :: us 2 ((.pointer (some ⟨V1.heap.size, 1, none⟩)) :: (.int .i64 ((e : Nat) : Int)) :: (.pointer (some ⟨V1.heap.size, 0, none⟩)) :: (.bool false) :: us 5 ((.int .i64 ((e : Nat) : Int)) :: (.slice p20 (dig B32 (g.toNat * P + e)).length c20) :: (.pointer (some ⟨w.heap.size, 2, none⟩)) :: (.int .i64 ((f.F : Nat) : Int)) :: (.slice p23 (dig B32 ((g.toNat * P + e) * 2 ^ f.F)).length c23) :: (.pointer (some ⟨V1.heap.size, 2, none⟩)) :: (.slice p (dig B32 x).length c) :: (.slice p26 (dig B32 NN).length c26) :: (.pointer (some ⟨w.heap.size, 0, none⟩)) :: (.int .i64 ((f.size : Nat) : Int)) :: (.slice p29 f.size c29) :: (.slice p29 f.size c29) :: (.int .i64 ((f.size : Nat) : Int)) :: (.int .i64 0) :: us 27 []))).toArray, []⟩) (by kernel_rfl) ?_
  refine sx_loop2 (fun (gk : Nat) U0 a' w' => ∃ (i : Nat), a' = ⟨((.agg #[.int .i64 ((f.size : Nat) : Int), .int .i64 ((f.E : Nat) : Int), .int .i64 ((f.F : Nat) : Int), .int .i64 f.g.rad, .int .i64 f.g.digs, .int .i64 f.g.lo, .int .i64 f.g.hi, .bool f.g.grad, .bool f.hid, .bool f.inf, .bool f.res, .func (.func (ordF f)) #[] #[]]) :: (.agg #[.bool g, .int .i64 ((e : Nat) : Int), .slice p (dig B32 x).length c]) :: (.pointer (some ⟨w.heap.size, 0, none⟩)) :: (.pointer (some ⟨V1.heap.size, 0, none⟩)) :: (Go.Value.string (ByteArray.mk #[])) :: (.int .i64 ((e : Nat) : Int)) :: (.slice p26 (dig B32 NN).length c26) :: (.slice p29 f.size c29) :: uvs U0 8 2 ((.pointer (some ⟨V1.heap.size, 1, none⟩)) :: (.int .i64 ((e : Nat) : Int)) :: (.pointer (some ⟨V1.heap.size, 0, none⟩)) :: (.bool false) :: us 5 ((.int .i64 ((e : Nat) : Int)) :: (.slice p20 (dig B32 (g.toNat * P + e)).length c20) :: (.pointer (some ⟨w.heap.size, 2, none⟩)) :: (.int .i64 ((f.F : Nat) : Int)) :: (.slice p23 (dig B32 ((g.toNat * P + e) * 2 ^ f.F)).length c23) :: (.pointer (some ⟨V1.heap.size, 2, none⟩)) :: (.slice p (dig B32 x).length c) :: (.slice p26 (dig B32 NN).length c26) :: (.pointer (some ⟨w.heap.size, 0, none⟩)) :: (.int .i64 ((f.size : Nat) : Int)) :: (.slice p29 f.size c29) :: (.slice p29 f.size c29) :: (.int .i64 ((f.size : Nat) : Int)) :: (.int .i64 ((i : Nat) : Int)) :: uvs U0 33 21 (us 6 [])))).toArray, []⟩ ∧ (Own w' V6.heap.size .u8 5 p29 c29 (LL bs i)) ∧ Below V6.heap.size V6 w' ∧ (gk + i = f.size)) f.size ?_ (fun Gx hGx => ?_)
  · skip
    exact ⟨0, by kernel_rfl, (by rw [HB0.out]; exact b29), hbV7, (by omega)⟩
  rintro gk0 U0 _ V8 ⟨i, rfl, r29, hbV8, hgk⟩
  refine hGx _ _ _ ?_
  clear hGx Gx
  have hzV8 := hbV8.size
  refine ye ?_
  rcases Bool.eq_false_or_eq_true (decide (((i : Nat) : Int) < ((f.size : Nat) : Int))) with f33 | f33
  · skip
    refine yb 0 rfl 33 (decide (((i : Nat) : Int) < ((f.size : Nat) : Int))) (true) (f33) ?_
    refine yzt 0 ?_
    refine yTs ?_
    refine wp_skip ?_
    refine sx_then ?_
    refine wp_seq ?_
    refine wp_block ?_
    refine yq ?_
    refine ye ?_
    have b2_w8 := b2.past (bthru (bthru (bthru (bthru (bthru hbV2 hbV3) hbV4) hbV5) hbV6) hbV8)
    refine yl 2 rfl 37 b2_w8 hT3 0 ?_
    refine ya 0 rfl 38 .i64 (((f.size : Nat) : Int) - 1) (((f.size - 1 : Nat) : Int)) ((by rw [show (((f.size : Nat) : Int) - 1) = ((f.size - 1 : Nat) : Int) by omega]; exact IntWalk.i64_in _ (by omega))) ?_
    refine ya 1 rfl 40 .i64 (((f.size - 1 : Nat) : Int) - ((i : Nat) : Int)) (((f.size - 1 - i : Nat) : Int)) ((by rw [show (((f.size - 1 : Nat) : Int) - ((i : Nat) : Int)) = ((f.size - 1 - i : Nat) : Int) by have := of_decide_eq_true f33; omega]; exact IntWalk.i64_in _ (by omega))) ?_
    refine ya 0 rfl 41 .i64 ((8 : Int) * ((f.size - 1 - i : Nat) : Int)) (((8 * (f.size - 1 - i) : Nat) : Int)) ((by rw [show ((8 : Int) * ((f.size - 1 - i : Nat) : Int)) = ((8 * (f.size - 1 - i) : Nat) : Int) by omega]; exact IntWalk.i64_in _ (by omega))) ?_
    have o26_w8 := o26.past hbV8
    refine yc 0 rfl 42 (sshr p26 _ c26 NN (8 * (f.size - 1 - i)) (NN / 2 ^ (8 * (f.size - 1 - i))) _ V8 o26_w8.rd rfl (by have := o26_w8.le_cap; omega) (by omega) (by omega) rfl rfl) (fun Gx hGx => ?_)
    rintro eV9 V9 ⟨p42, c42, rfl, o42, hbV9⟩
    have hzV9 := hbV9.size
    refine ⟨_, rfl, hGx _ _ ?_⟩
    clear hGx Gx
    refine yzt 1 ?_
    have hi := of_decide_eq_true f33
    have hdi := hdg i (by omega)
    have hq0 := dig_len_zero B32_two (NN / 2 ^ (8 * (f.size - 1 - i)))
    refine ye ?_
    rcases Bool.eq_false_or_eq_true (decide ((((dig B32 (NN / 2 ^ (8 * (f.size - 1 - i)))).length : Nat) : Int) > 0)) with f45 | f45
    · skip
      refine yb 2 rfl 45 (decide ((((dig B32 (NN / 2 ^ (8 * (f.size - 1 - i)))).length : Nat) : Int) > 0)) (true) (f45) ?_
      refine yzt 0 ?_
      refine yT ?_
      refine sx_region ?_
      refine yv 3 rfl 49 (.pointer (some (at_ p42 0))) ?_ (exec_ix (p := p42) (n := (dig B32 (NN / 2 ^ (8 * (f.size - 1 - i)))).length) (c := c42) (m := 0) tyNat o42.rd.solid (by kernel_rfl) (by kernel_rfl) (by have := of_decide_eq_true f45; omega))
      refine yv 0 rfl 50 (.int .u32 ((dg (dig B32 (NN / 2 ^ (8 * (f.size - 1 - i)))) 0 : Nat) : Int)) ?_ (exec_ldr o42.rd ldU32 (m := 0) (by kernel_rfl) (by have := of_decide_eq_true f45; omega) rfl)
      refine ya 0 rfl 51 .u8 ((dg (dig B32 (NN / 2 ^ (8 * (f.size - 1 - i)))) 0 : Nat) : Int) (((dg bs i : Nat) : Int)) ((by rw [u8_wrap, dg_dig0, hdi]; congr 1; exact Nat.mod_mod_of_dvd _ (by decide))) ?_
      replace r29 := (r29.past hbV9)
      refine yv 0 rfl 52 (.pointer (some (at_ p29 i))) ?_ (exec_ixv (p := p29) (n := f.size) (c := c29) (m := i) tvBytes (by have h := r29.solid; rw [hLl, hbl] at h; exact h) (by kernel_rfl) (by kernel_rfl) (by omega))
      refine sputn tvBytes V6.heap.size p29 c29 _ r29 i (by rw [hLl, hbl]; omega) (dg bs i) (fun V10 n29 hjV10 => ?_)
      have hbV10 : Below V6.heap.size V6 V10 := (bthru hbV8 hbV9).trans (hjV10.mono (by omega))
      have hzV10 := hbV10.size
      refine yz 0 ?_
      refine sx_inblock ?_
      refine sx_then ?_
      refine sx_region ?_
      refine ya 0 rfl 53 .i64 (((i : Nat) : Int) + 1) (((i + 1 : Nat) : Int)) ((by rw [show (((i : Nat) : Int) + 1) = ((i + 1 : Nat) : Int) by omega]; exact IntWalk.i64_in _ (by omega))) ?_
      refine yz 1 ?_
      refine sx_then ?_
      refine ⟨gk0 - 1, (by omega), ?_⟩
      exact ⟨i + 1, by kernel_rfl, (by rw [← hbs i (by omega)]; exact n29), hbV10, (by omega)⟩
    refine yb 2 rfl 45 (decide ((((dig B32 (NN / 2 ^ (8 * (f.size - 1 - i)))).length : Nat) : Int) > 0)) (false) (f45) ?_
    refine yzt 0 ?_
    refine yF ?_
    refine wp_skip ?_
    refine sx_inblock ?_
    refine sx_then ?_
    refine sx_region ?_
    refine ya 0 rfl 53 .i64 (((i : Nat) : Int) + 1) (((i + 1 : Nat) : Int)) ((by rw [show (((i : Nat) : Int) + 1) = ((i + 1 : Nat) : Int) by omega]; exact IntWalk.i64_in _ (by omega))) ?_
    refine yz 1 ?_
    refine sx_then ?_
    refine ⟨gk0 - 1, (by omega), ?_⟩
    replace r29 := (r29.past hbV9)
    exact ⟨i + 1, by kernel_rfl, (by rw [← hbz i (by rw [hdi, hq0.1 (by have := of_decide_eq_false f45; omega)])]; exact r29), (bthru hbV8 hbV9), (by omega)⟩
  refine yb 0 rfl 33 (decide (((i : Nat) : Int) < ((f.size : Nat) : Int))) (false) (f33) ?_
  refine yzt 0 ?_
  refine yFs ?_
  refine wp_exit ?_
  repeat (with_reducible refine sx_thenexit ?_)
  refine sx_exit (id := 0) ?_
  refine sx_then ?_
  have hi : i = f.size := by have := of_decide_eq_false f33; omega
  rw [hi, hball] at r29
  refine ye ?_
  have b2_w8 := b2.past (bthru (bthru (bthru (bthru (bthru hbV2 hbV3) hbV4) hbV5) hbV6) hbV8)
  refine yl 1 rfl 55 b2_w8 hT114 11 ?_
  refine yn 1 rfl ?_
  refine se 57 (ordF f) #[.slice p29 f.size c29] (fun Gx hGx => ?_) (hr := exec_ord3 (ordF f) (ordF_is f) (by kernel_rfl) (by kernel_rfl))
  ((with_reducible refine (hord V8 V6.heap.size p29 c29 bs r29.wr hbl (by omega)).mono ?_))
  rintro eV9 V9 ⟨rfl, x57, hjV9⟩
  have hbV9 : Below V6.heap.size V6 V9 := hbV8.trans (hjV9.mono (by omega))
  have hzV9 := hbV9.size
  refine ⟨.tuple #[], rfl, hGx _ _ ?_⟩
  clear hGx Gx
  refine yzt 0 ?_
  refine ye ?_
  refine yv 1 rfl 59 (.string (strOf (ordL f.ord bs))) ?_ (exec_str (p := p29) (n := f.size) (c := c29) uBytes uByte uStr x57.rd (by rw [ordL_len, hbl]) (by kernel_rfl))
  refine yzt 1 ?_
  refine wp_ret ?_
  repeat (first | with_reducible refine sx_thenret ?_ | with_reducible refine sx_blockret ?_)
  refine yret (.string (strOf (ordL f.ord bs))) (res1 Tryd.results75 rvt) ?_
  exact ⟨rfl, (bthru (bthru (bthru (bthru (bthru (bthru hbV1 hbV2) hbV3) hbV4) hbV5) hbV6) hbV9)⟩
end Go.Proofs.YtcipdimogodndaaDoor

namespace Go.Slip

structure Pt where
  neg : Bool
  e : Nat
  x : Nat
def Fm.fr (f : Fm) (d : Dv) : Nat := d.m * 2 ^ (d.e - wid f.g * stepK d f.g).toNat
def Fm.numP (f : Fm) (d : Dv) : Pt :=
  if f.fam = 2 then ⟨d.neg, (stepK d f.g - f.g.lo).toNat, f.fr d⟩
  else if (blen (f.fr d) : Int) = f.g.digs then ⟨d.neg, (stepK d f.g - f.g.lo).toNat + 1, if f.ext then f.fr d else f.fr d - 2 ^ f.F⟩
  else ⟨d.neg, (stepK d f.g - f.g.lo).toNat, f.fr d⟩
def Fm.encP (f : Fm) (cls : Nat) (g : Bool) (d : Dv) : Pt :=
  if cls = 2 then f.numP d
  else if cls = 3 then ⟨g, 2 ^ f.E - 1, if f.ext then 2 ^ 63 else 0⟩
  else if cls = 4 then ⟨g, 2 ^ f.E - 1, if f.ext then 2 ^ 63 + 2 ^ 62 else 2 ^ (f.F - 1)⟩
  else if cls = 5 then ⟨true, 0, 0⟩
  else ⟨g, 0, 0⟩
def Fm.strP (f : Fm) (p : Pt) : List Nat := f.str p.neg p.e p.x

structure NumF (f : Fm) (d : Dv) : Prop where
  k1 : f.g.lo ≤ stepK d f.g
  k2 : stepK d f.g ≤ f.g.hi
  e0 : 0 ≤ d.e - wid f.g * stepK d f.g
  e1 : d.e - wid f.g * stepK d f.g ≤ 484
  lt : f.fr d < 2 ^ (wid f.g * f.g.digs.toNat)
  ne : f.fr d ≠ 0
  bl : (blen (f.fr d) : Int) ≤ wid f.g * f.g.digs
  low : f.fam ≠ 2 → (blen (f.fr d) : Int) ≠ f.g.digs → stepK d f.g = f.g.lo ∧ f.fam = 1

theorem numF_of {f : Fm} (G : GoodF f) {d : Dv} (hin : inGridD d f.g = true) (h0 : d.m ≠ 0) : NumF f d := by
  have hg := goodG_of G.g
  obtain ⟨a1, a2, a3, a4⟩ := step_bd hg hin h0
  have hd1 := hg.d1
  have wp := wid_pos f.g
  obtain ⟨D, hD⟩ : ∃ D : Nat, f.g.digs = D := ⟨f.g.digs.toNat, by omega⟩
  have hDt : f.g.digs.toNat = D := by omega
  have hbl : (blen (f.fr d) : Int) = topD d - wid f.g * stepK d f.g := by
    unfold Fm.fr
    rw [blen_shift (by omega)]
    unfold topD
    omega
  have hpos : f.fr d ≠ 0 := by
    unfold Fm.fr
    have := Nat.mul_pos (show 0 < d.m by omega) (Nat.pow_pos (n := (d.e - wid f.g * stepK d f.g).toNat) (show 0 < 2 by omega))
    omega
  have hb := ediv_bd (topD d - 1) (wid f.g) (by omega)
  have eU : upK d (wid f.g) D = (topD d - 1) / (wid f.g : Int) - D + 1 := rfl
  have eS : stepK d f.g = max f.g.lo (upK d (wid f.g) f.g.digs.toNat) := rfl
  rw [hDt] at eS
  have hle : upK d (wid f.g) D ≤ stepK d f.g := by omega
  have hmul : (wid f.g : Int) * upK d (wid f.g) D ≤ wid f.g * stepK d f.g := Int.mul_le_mul_of_nonneg_left hle (by omega)
  have eK : (wid f.g : Int) * upK d (wid f.g) D = wid f.g * ((topD d - 1) / (wid f.g : Int)) - wid f.g * D + wid f.g := by rw [eU]; grind
  have hbD : (blen (f.fr d) : Int) ≤ wid f.g * f.g.digs := by rw [hD]; omega
  have ewD : ((wid f.g * D : Nat) : Int) = wid f.g * D := Int.natCast_mul _ _
  refine ⟨a3, a4, by omega, by omega, ?_, hpos, hbD, fun hf hn => ?_⟩
  · rw [hDt]
    refine (blen_le _ _).1 ?_
    rw [hD] at hbD
    omega
  · have hw : wid f.g = 1 := by rw [G.w, if_neg hf]
    rw [hw] at hbl eU
    have hu : ¬ stepK d f.g = upK d 1 D := by
      intro h
      apply hn
      rw [hbl, h, eU, hD]
      have : (topD d - 1) / ((1 : Nat) : Int) = topD d - 1 := by simp
      omega
    rw [hw] at eS
    have hlo : stepK d f.g = f.g.lo := by omega
    refine ⟨hlo, ?_⟩
    have hlt : upK d 1 D < f.g.lo := by omega
    unfold inGridD at hin
    rw [if_neg h0, hDt, hw] at hin
    split at hin
    · simp at hin
    · have hgr := G.grad
      by_cases hf1 : f.fam = 1
      · exact hf1
      · rw [decide_eq_false hf1] at hgr
        rw [hgr] at hin
        simp at hin

theorem digs_hid {f : Fm} (G : GoodF f) (hf : f.fam ≠ 2) : (f.ext = false ∧ f.g.digs = f.F + 1) ∨ (f.ext = true ∧ f.g.digs = f.F ∧ f.F = 64) := by
  cases h : f.ext with
  | false => exact .inl ⟨rfl, G.d1 hf h⟩
  | true => have := G.ext h; exact .inr ⟨rfl, by omega, this.2.1⟩

theorem numP_lt {f : Fm} (G : GoodF f) {d : Dv} (N : NumF f d) : (f.numP d).e < 2 ^ f.E ∧ (f.numP d).x < 2 ^ f.F := by
  have hE1 : (2 : Nat) ^ 7 ≤ 2 ^ f.E := Nat.pow_le_pow_right (by omega) G.e1
  have h1 := N.k1
  have h2 := N.k2
  have hF2 := N.lt
  have hdd := G.d2
  have hw := G.w
  unfold Fm.numP
  by_cases hf : f.fam = 2
  · rw [if_pos hf]
    have := G.hi2 hf
    rw [hw, if_pos hf, show 4 * f.g.digs.toNat = f.F by have := hdd hf; omega] at hF2
    exact ⟨by simp only; omega, hF2⟩
  · rw [if_neg hf]
    rw [hw, if_neg hf, Nat.one_mul] at hF2
    have hhi : f.g.hi + 2 ≤ f.g.lo + (2 ^ f.E : Nat) := by
      have h3 := G.hi1
      have h4 := G.hi3
      have h5 := G.fam
      omega
    rcases digs_hid G hf with ⟨he, hd⟩ | ⟨he, hd, h64⟩
    · rw [show f.g.digs.toNat = f.F + 1 by omega, Nat.pow_succ] at hF2
      by_cases hb : (blen (f.fr d) : Int) = f.g.digs
      · rw [if_pos hb, if_neg (by simp [he])]
        exact ⟨by simp only; omega, by simp only; omega⟩
      · rw [if_neg hb]
        refine ⟨by simp only; omega, ?_⟩
        have hbl := N.bl
        rw [hw, if_neg hf] at hbl
        show f.fr d < 2 ^ f.F
        exact (blen_le _ _).1 (by omega)
    · rw [show f.g.digs.toNat = f.F by omega] at hF2
      by_cases hb : (blen (f.fr d) : Int) = f.g.digs
      · rw [if_pos hb, if_pos he]
        exact ⟨by simp only; omega, hF2⟩
      · rw [if_neg hb]
        exact ⟨by simp only; omega, hF2⟩

theorem encP_lt {f : Fm} (G : GoodF f) {cls : Nat} {g : Bool} {d : Dv} (N : cls = 2 → NumF f d) : (f.encP cls g d).e < 2 ^ f.E ∧ (f.encP cls g d).x < 2 ^ f.F := by
  have h0 : 0 < 2 ^ f.E := Nat.pow_pos (by omega)
  have h1 : 0 < 2 ^ f.F := Nat.pow_pos (by omega)
  have hF := G.f1
  have h2 : 2 ^ (f.F - 1) < 2 ^ f.F := Nat.pow_lt_pow_right (by omega) (by omega)
  have h3 : f.ext = true → 2 ^ f.F = 2 ^ 64 := fun h => by rw [(G.ext h).2.1]
  unfold Fm.encP
  by_cases c2 : cls = 2
  · rw [if_pos c2]; exact numP_lt G (N c2)
  · rw [if_neg c2]
    by_cases c3 : cls = 3
    · rw [if_pos c3]
      refine ⟨by simp only; omega, ?_⟩
      simp only
      split
      · rename_i h; rw [h3 h]; omega
      · exact h1
    · rw [if_neg c3]
      by_cases c4 : cls = 4
      · rw [if_pos c4]
        refine ⟨by simp only; omega, ?_⟩
        simp only
        split
        · rename_i h; rw [h3 h]; omega
        · exact h2
      · rw [if_neg c4]
        split
        · exact ⟨h0, h1⟩
        · exact ⟨h0, h1⟩

theorem bare_sign (g : Bool) (m : Nat) (e : Int) : (if g then dMinus (bare ⟨false, m, e⟩) else bare ⟨false, m, e⟩) = bare ⟨g, m, e⟩ := by
  cases g with
  | false => rfl
  | true =>
    rw [if_pos rfl]
    by_cases h : m = 0
    · subst h; rfl
    · unfold bare dMinus
      rw [if_neg h, if_neg h]
      have h1 := tz_spec m (by omega)
      have h2 : 0 < m / 2 ^ tz m := by
        rcases Nat.eq_zero_or_pos (m / 2 ^ tz m) with k | k
        · rw [k] at h1; simp at h1
        · exact k
      simp [h2]

end Go.Slip

namespace Go.Proofs.YtcipdimogodndaaDoor
open Go.RowKit Go.Slip

set_option maxHeartbeats 1000000 in
theorem width_any (g : Gd) (w : World) :
    Calls Tryd.prog 103 #[.agg #[.int .i64 g.rad, .int .i64 g.digs, .int .i64 g.lo, .int .i64 g.hi, .bool g.grad]] w fun e w' => e = .returned (.int .i64 (wid g : Nat)) ∧ Below w.heap.size w w' := by
  obtain ⟨rad, digs, lo, hi, grad⟩ := g
  simp only
  unfold wid
  simp only
  have hb : Below w.heap.size w (w.alloc (.cells #[.int .i64 rad, .int .i64 digs, .int .i64 lo, .int .i64 hi, .bool grad] 29)) := below_lay1 _ _
  by_cases h : rad = 16
  · subst h
    go_enter Tryd.func103, Tryd.ntmps103
    go_wp2
    go_ret
    exact ⟨by simp, hb⟩
  · have h1 : (rad == 16) = false := beq_eq_false_iff_ne.2 h
    rw [if_neg h]
    clear h
    go_enter Tryd.func103, Tryd.ntmps103
    go_wp2
    go_ret
    exact ⟨rfl, hb⟩

theorem floor_ediv {n : Int} {d : Nat} (hd : 1 ≤ d) (_h : n < 0) : -(((d : Int) - 1 - n) / d) = n / d := by
  have h1 := ediv_bd n d hd
  have h2 := ediv_bd ((d : Int) - 1 - n) d hd
  have hp : (0 : Int) < d := by omega
  generalize n / (d : Int) = x at *
  generalize ((d : Int) - 1 - n) / (d : Int) = y at *
  have h3 : (d : Int) * (x + y) < d := by rw [Int.mul_add]; omega
  have h4 : (d : Int) * (-1) < d * (x + y) := by rw [Int.mul_add]; omega
  have h5 := Int.lt_of_mul_lt_mul_left h4 (by omega)
  have h6 : (d : Int) * (x + y) < d * 1 := by omega
  have h7 := Int.lt_of_mul_lt_mul_left h6 (by omega)
  omega

set_option maxHeartbeats 1000000 in
theorem gfloor_any (n : Int) (d : Nat) (w : World) (hn : -1000000000 ≤ n ∧ n ≤ 1000000000) (hd : 1 ≤ d) (hd2 : d ≤ 1000) :
    Calls Tryd.prog 104 #[.int .i64 n, .int .i64 d] w fun e w' => e = .returned (.int .i64 (n / (d : Int))) ∧ w = w' := by
  obtain ⟨hn1, hn2⟩ := hn
  have t1 : ((d : Int) == 0) = false := beq_eq_false_iff_ne.2 (by omega)
  by_cases h : n < 0
  · have hq := Int.ediv_le_self (a := (d : Int) - 1 - n) (d : Int) (by omega)
    have hq0 := Int.ediv_nonneg (a := (d : Int) - 1 - n) (b := (d : Int)) (by omega) (by omega)
    rw [← floor_ediv hd h]
    go_enter Tryd.func104, Tryd.ntmps104
    go_wp2
    go_ret
    exact ⟨rfl, rfl⟩
  · have hq := Int.ediv_le_self (a := n) (d : Int) (by omega)
    have hq0 := Int.ediv_nonneg (a := n) (b := (d : Int)) (by omega) (by omega)
    go_enter Tryd.func104, Tryd.ntmps104
    go_wp2
    go_ret
    exact ⟨rfl, rfl⟩

end Go.Proofs.YtcipdimogodndaaDoor

namespace Go.Proofs.YtcipdimogodndaaDoor
open Go.RowKit Go.Slip

theorem len_shl' (a N n : Nat) (h : (dig B32 a).length ≤ n) : (dig B32 (a * 2 ^ N)).length ≤ n + (N / 32 + 1) := Nat.le_trans (len_shl a N) (by omega)
theorem numP_len {a : Nat} {n : Int} (h : (dig B32 a).length ≤ 1000000) (hn : -10000000 ≤ n ∧ n ≤ 10000000) : (dig B32 (numP a n)).length ≤ 1400000 := by
  have := len_shl' a n.toNat _ h; unfold numP; omega
theorem denP_len {a : Nat} {n : Int} (h : (dig B32 a).length ≤ 1000000) (hn : -10000000 ≤ n ∧ n ≤ 10000000) : (dig B32 (denP a n)).length ≤ 1400000 := by
  have := len_shl' a (-n).toNat _ h; unfold denP; omega

theorem gof_one (w : World) : Calls Tryd.prog 96 #[.int .i64 1] w (Gives w .u32 91 (dig B32 1)) := of_any 1 w (by omega)

def Gives3 (w : World) (q0 : Option Addr) (x y z : Nat) (en : Ending) (w' : World) : Prop :=
  ∃ p c q d r f, en = .returned (.tuple #[.slice p (dig B32 x).length c, .slice q (dig B32 y).length d, .slice r (dig B32 z).length f]) ∧ Own w' w.heap.size .u32 91 p c (dig B32 x) ∧ Own w' w.heap.size .u32 91 q d (dig B32 y) ∧ Rd w' .u32 r (dig B32 z) ∧ (r = q0 ∨ (0 < (dig B32 z).length → w.heap.size ≤ blk r)) ∧ Below w.heap.size w w'

set_option maxHeartbeats 1000000 in
theorem scaled_any (p q : Option Addr) (m k c d : Nat) (a b : Nat) (n : Int) (w : World) (hp : Rd w .u32 p (dig B32 a)) (hq : Rd w .u32 q (dig B32 b)) (hm : m = (dig B32 a).length) (hk : k = (dig B32 b).length)
    (hl : (dig B32 a).length ≤ 1000000) (hl2 : (dig B32 b).length ≤ 1000000) (hb : 0 < b) (hn : -10000000 ≤ n ∧ n ≤ 10000000) :
    Calls Tryd.prog 105 #[.slice p m c, .slice q k d, .int .i64 n] w (Gives3 w q (qP a b n) (rP a b n) (denP b n)) := by
  subst hm hk
  have l1 := numP_len hl hn
  have l2 := denP_len hl2 hn
  have h0 := denP_pos hb n
  unfold qP rP
  by_cases h : 0 ≤ n
  · obtain ⟨N, rfl⟩ : ∃ N : Nat, n = N := ⟨n.toNat, by omega⟩
    have e1 : denP b (N : Int) = b := by unfold denP; rw [show (-(N : Int)).toNat = 0 by omega, Nat.pow_zero, Nat.mul_one]
    have HN := Lib.hid (show numP a (N : Int) = a * 2 ^ N by unfold numP; rw [Int.toNat_natCast])
    rw [e1] at l2 h0 ⊢
    clear e1
    generalize numP a (N : Int) = x at *
    go_enter Tryd.func105, Tryd.ntmps105
    go_wp2_with fail
    ((with_reducible refine (shl_any p _ c a N _ hp rfl (by omega) (by omega)).mono ?_))
    rintro e1 w1 ⟨p1, c1, rfl, ho1, hb1⟩
    replace hp := hp.past hb1
    replace hq := hq.past hb1
    have hs1 := hb1
    rw [← HN.out] at ho1 ⊢
    go_wp2_with fail
    ((with_reducible refine (limbDiv_any p1 q _ _ c1 d x b _ ho1.rd hq rfl rfl (by omega) (by omega) h0).mono ?_))
    rintro e2 w2 ⟨p2, c2, q2, d2, rfl, ho2, ho3, hb2, -⟩
    replace hp := hp.past hb2
    replace hq := hq.past hb2
    replace ho1 := ho1.past hb2
    have hs2 := hs1.trans (hb2.mono hs1.size)
    go_wp2_with fail
    refine bodyPost_ret (v := .tuple #[.slice p2 (dig B32 (x / b)).length c2, .slice q2 (dig B32 (x % b)).length d2, .slice q (dig B32 b).length d]) (by simp [results, Tryd.results105, go_sem]) rfl ?_
    exact ⟨p2, c2, q2, d2, q, d, rfl, ho2.mono hs1.size, ho3.mono hs1.size, hq, .inl rfl, hs2⟩
  · obtain ⟨N, rfl⟩ : ∃ N : Nat, n = -(N : Int) := ⟨(-n).toNat, by omega⟩
    have e1 : numP a (-(N : Int)) = a := by unfold numP; rw [show (-(N : Int)).toNat = 0 by omega, Nat.pow_zero, Nat.mul_one]
    have HN := Lib.hid (show denP b (-(N : Int)) = b * 2 ^ N by unfold denP; rw [show (-(-(N : Int))).toNat = N by omega])
    rw [e1] at l1 ⊢
    clear e1
    generalize denP b (-(N : Int)) = x at *
    go_enter Tryd.func105, Tryd.ntmps105
    go_wp2_with fail
    ((with_reducible refine (shl_any q _ d b N _ hq rfl (by omega) (by omega)).mono ?_))
    rintro e1 w1 ⟨p1, c1, rfl, ho1, hb1⟩
    replace hp := hp.past hb1
    replace hq := hq.past hb1
    have hs1 := hb1
    rw [← HN.out] at ho1 ⊢
    go_wp2_with fail
    ((with_reducible refine (limbDiv_any p p1 _ _ c c1 a x _ hp ho1.rd rfl rfl (by omega) (by omega) h0).mono ?_))
    rintro e2 w2 ⟨p2, c2, q2, d2, rfl, ho2, ho3, hb2, -⟩
    replace hp := hp.past hb2
    replace hq := hq.past hb2
    replace ho1 := ho1.past hb2
    have hs2 := hs1.trans (hb2.mono hs1.size)
    go_wp2_with fail
    refine bodyPost_ret (v := .tuple #[.slice p2 (dig B32 (a / x)).length c2, .slice q2 (dig B32 (a % x)).length d2, .slice p1 (dig B32 x).length c1]) (by simp [results, Tryd.results105, go_sem]) rfl ?_
    exact ⟨p2, c2, q2, d2, p1, c1, rfl, ho2.mono hs1.size, ho3.mono hs1.size, ho1.rd, .inr fun h => (ho1.blk_lt (ho1.rd.solid h).1).1, hs2⟩

end Go.Proofs.YtcipdimogodndaaDoor

namespace Go.Slip
open Go.RowKit Go.MapKept

section
variable {P : Program} {w : World}

theorem run_insert_new {mt kt vt : TypeId} (hm : P.underlying mt = some (.map kt vt)) (hk : P.underlying kt = some (.int .i64)) (es : Array MapEntry) (clock : Nat) (k : Int) (v : Value)
    (hf : Instr.findNow (.int .i64) (.int .i64 k) es.toList 0 = some none) :
    (Instr.mapUpdate mt (.map (some w.heap.size)) (.int .i64 k) v).run P (w.alloc (.map es clock)) = .ok () (w.alloc (.map (es.push ⟨.int .i64 k, v, clock⟩) (clock + 1))) := by
  have hb : (w.alloc (.map es clock)).heap[w.heap.size]? = some (.map es clock) := by show (w.heap.push _)[_]? = _; simp
  simp [Instr.mapUpdate, run_underlying hm, MapKept.run_getObj_map hb, run_checkKey hk (show IsKey (.int .i64) (.int .i64 k) from rfl), run_findKey hk hf, run_setObj_map _ hb, Result.andThen]
  have e : (w.heap.push (.map es clock)).setIfInBounds w.heap.size (.map (es.push ⟨.int .i64 k, v, clock⟩) (clock + 1)) = w.heap.push (.map (es.push ⟨.int .i64 k, v, clock⟩) (clock + 1)) := by
    apply Array.ext'
    simp
  show World.mk _ _ _ _ _ = World.mk _ _ _ _ _
  congr 1

theorem run_lookup_int {mt kt vt : TypeId} {b : Nat} {es : Array MapEntry} {clock : Nat} (hm : P.underlying mt = some (.map kt vt)) (hk : P.underlying kt = some (.int .i64)) (hb : w.heap[b]? = some (.map es clock)) (k : Int)
    {i : Nat} {v : Value} (hf : Instr.findNow (.int .i64) (.int .i64 k) es.toList 0 = some (some (i, v))) :
    (Instr.lookup mt (.map (some b)) (.int .i64 k) false).run P w = .ok v w := by
  simp [Instr.lookup, run_underlying hm, MapKept.run_getObj_map hb, run_checkKey hk (show IsKey (.int .i64) (.int .i64 k) from rfl), run_findKey hk hf, Result.andThen]

theorem wpl_insert {ops : Array Oper} {rest : List Oper} {o : Oper} {a : Act} {Q : Exit → Act → World → Prop}
    (hg : o.guard = none) (m x v : Operand) (t : TypeId) (hop : o.op = Op.insert t m x v) {kt vt : TypeId} (hm : P.underlying t = some (.map kt vt)) (hk : P.underlying kt = some (.int .i64)) {es : Array MapEntry} {clock : Nat} {k : Int} {val : Value}
    (h1 : a.eval m = .map (some w.heap.size)) (h2 : a.eval x = .int .i64 k) (h3 : a.eval v = val) (hf : Instr.findNow (.int .i64) (.int .i64 k) es.toList 0 = some none)
    (h : wpList P ops Q rest (a.put o.dst undef) (w.alloc (.map (es.push ⟨.int .i64 k, val, clock⟩) (clock + 1)))) : wpList P ops Q (o :: rest) a (w.alloc (.map es clock)) := by
  refine wpList_plain hg fun K' hK' => ?_
  unfold Oper.wp
  simp [execOp, hop, h1, h2, h3, run_insert_new hm hk es clock k val hf, Result.andThen]
  exact hK' _ _ h
end

end Go.Slip

namespace Go.Proofs.YtcipdimogodndaaDoor
open Go.RowKit Go.Slip

def waysMap : Array MapEntry := #[⟨.int .i64 1, .func (.func 130) #[] #[], 0⟩, ⟨.int .i64 2, .func (.func 131) #[] #[], 1⟩, ⟨.int .i64 3, .func (.func 132) #[] #[], 2⟩, ⟨.int .i64 4, .func (.func 133) #[] #[], 3⟩, ⟨.int .i64 5, .func (.func 134) #[] #[], 4⟩]

theorem tyWays : Tryd.prog.underlying 160 = some (.map 3 159) := by kernel_rfl

def Ways (w : World) (b : Nat) : Prop := w.heap[b]? = some (.map waysMap 5)
theorem Ways.past {w w' : World} {b : Nat} (h : Ways w b) (hb : Below w.heap.size w w') : Ways w' b := (hb.block b (Array.getElem?_eq_some_iff.1 h).1).trans h

set_option maxHeartbeats 1000000 in
theorem ups_any (w : World) :
    Calls Tryd.prog 102 #[] w fun e w' => e = .returned (.map (some w.heap.size)) ∧ Ways w' w.heap.size ∧ Below w.heap.size w w' := by
  have hmm := @run_makeMap Tryd.prog
  go_enter Tryd.func102, Tryd.ntmps102
  go_wp2_with (refine wpl_insert rfl _ _ _ _ rfl tyWays Tryd.underlying3 rfl rfl rfl rfl ?_)
  go_ret
  exact ⟨rfl, by show (w.heap.push _)[_]? = _; simp [waysMap], (Below.refl _ _).alloc (Nat.le_refl _) _⟩

def wayF (k : Int) : Value := if k = 1 then .func (.func 130) #[] #[] else if k = 2 then .func (.func 131) #[] #[] else if k = 3 then .func (.func 132) #[] #[]
  else if k = 4 then .func (.func 133) #[] #[] else if k = 5 then .func (.func 134) #[] #[] else .nilFunc

theorem findWay_in {k : Int} (h1 : 1 ≤ k) (h2 : k ≤ 5) : ∃ i, Instr.findNow (.int .i64) (.int .i64 k) waysMap.toList 0 = some (some (i, wayF k)) := by
  obtain rfl | rfl | rfl | rfl | rfl : k = 1 ∨ k = 2 ∨ k = 3 ∨ k = 4 ∨ k = 5 := by omega
  · exact ⟨0, rfl⟩
  · exact ⟨1, rfl⟩
  · exact ⟨2, rfl⟩
  · exact ⟨3, rfl⟩
  · exact ⟨4, rfl⟩

theorem look_in {w : World} {b : Nat} (h : Ways w b) {k : Int} (h1 : 1 ≤ k) (h2 : k ≤ 5) :
    (Instr.lookup 160 (.map (some b)) (.int .i64 k) false).run Tryd.prog w = .ok (wayF k) w := by
  obtain ⟨i, hi⟩ := findWay_in h1 h2
  exact run_lookup_int tyWays Tryd.underlying3 h k hi

end Go.Proofs.YtcipdimogodndaaDoor

namespace Go.Proofs.YtcipdimogodndaaDoor
open Go.RowKit Go.Slip

set_option maxHeartbeats 400000 in
theorem ups1_any (neg odd : Bool) (half : Int) (w : World) :
    Calls Tryd.prog 130 #[.bool neg, .bool odd, .int .i64 half] w fun e w' => e = .returned (.bool (awayP 1 neg odd half)) ∧ w' = w := by
  unfold awayP
  simp only [if_true]
  by_cases h : 0 < half
  · go_enter Tryd.func130, Tryd.ntmps130
    go_wp2
    go_ret
    exact ⟨by simp [h], rfl⟩
  · by_cases h0 : half = 0
    · subst h0
      cases odd
      · go_enter Tryd.func130, Tryd.ntmps130
        go_wp2
        go_ret
        exact ⟨rfl, rfl⟩
      · go_enter Tryd.func130, Tryd.ntmps130
        go_wp2
        go_ret
        exact ⟨rfl, rfl⟩
    · have t0 : (half == 0) = false := beq_eq_false_iff_ne.2 h0
      have H := Lib.hid h0
      clear h0
      go_enter Tryd.func130, Tryd.ntmps130
      go_wp2
      go_ret
      exact ⟨by simp [H.out, show ¬ 0 < half from by omega], rfl⟩

set_option maxHeartbeats 400000 in
theorem ups2_any (neg odd : Bool) (half : Int) (w : World) :
    Calls Tryd.prog 131 #[.bool neg, .bool odd, .int .i64 half] w fun e w' => e = .returned (.bool (awayP 2 neg odd half)) ∧ w' = w := by
  have e : awayP 2 neg odd half = decide (0 ≤ half) := rfl
  rw [e]
  clear e
  by_cases h : 0 ≤ half
  · go_enter Tryd.func131, Tryd.ntmps131
    go_wp2
    go_ret
    exact ⟨by simp [h], rfl⟩
  · go_enter Tryd.func131, Tryd.ntmps131
    go_wp2
    go_ret
    exact ⟨by simp; omega, rfl⟩

set_option maxHeartbeats 400000 in
theorem ups3_any (neg odd : Bool) (half : Int) (w : World) :
    Calls Tryd.prog 132 #[.bool neg, .bool odd, .int .i64 half] w fun e w' => e = .returned (.bool (awayP 3 neg odd half)) ∧ w' = w := by
  have e : awayP 3 neg odd half = false := rfl
  rw [e]
  clear e
  go_enter Tryd.func132, Tryd.ntmps132
  go_wp2
  go_ret
  exact ⟨rfl, rfl⟩

set_option maxHeartbeats 400000 in
theorem ups4_any (neg odd : Bool) (half : Int) (w : World) :
    Calls Tryd.prog 133 #[.bool neg, .bool odd, .int .i64 half] w fun e w' => e = .returned (.bool (awayP 4 neg odd half)) ∧ w' = w := by
  have e : awayP 4 neg odd half = !neg := rfl
  rw [e]
  clear e
  go_enter Tryd.func133, Tryd.ntmps133
  go_wp2
  go_ret
  exact ⟨rfl, rfl⟩

set_option maxHeartbeats 400000 in
theorem ups5_any (neg odd : Bool) (half : Int) (w : World) :
    Calls Tryd.prog 134 #[.bool neg, .bool odd, .int .i64 half] w fun e w' => e = .returned (.bool (awayP 5 neg odd half)) ∧ w' = w := by
  have e : awayP 5 neg odd half = neg := rfl
  rw [e]
  clear e
  go_enter Tryd.func134, Tryd.ntmps134
  go_wp2
  go_ret
  exact ⟨rfl, rfl⟩

theorem wayF_spec {k : Int} (h1 : 1 ≤ k) (h2 : k ≤ 5) :
    ∃ f, wayF k = .func (.func f) #[] #[] ∧ (∀ (neg odd : Bool) (half : Int) (w : World), Calls Tryd.prog f #[.bool neg, .bool odd, .int .i64 half] w fun e w' => e = .returned (.bool (awayP k neg odd half)) ∧ w' = w) ∧ ∀ args w, (callFunc f args).run Tryd.prog w = .ok (.enter f args) w := by
  obtain rfl | rfl | rfl | rfl | rfl : k = 1 ∨ k = 2 ∨ k = 3 ∨ k = 4 ∨ k = 5 := by omega
  · exact ⟨_, rfl, ups1_any, fun _ _ => by kernel_rfl⟩
  · exact ⟨_, rfl, ups2_any, fun _ _ => by kernel_rfl⟩
  · exact ⟨_, rfl, ups3_any, fun _ _ => by kernel_rfl⟩
  · exact ⟨_, rfl, ups4_any, fun _ _ => by kernel_rfl⟩
  · exact ⟨_, rfl, ups5_any, fun _ _ => by kernel_rfl⟩

end Go.Proofs.YtcipdimogodndaaDoor

namespace Go.Proofs.YtcipdimogodndaaDoor
open Go.RowKit Go.Slip

def GivesP (w : World) (d : Pl) (en : Ending) (w' : World) : Prop :=
  ∃ p c, en = .returned (.agg #[.bool d.neg, .slice p (dig B32 d.d).length c, .int .i64 d.pow, .bool d.exact, .bool d.over, .bool d.under]) ∧ Own w' w.heap.size .u32 91 p c (dig B32 d.d) ∧ Below w.heap.size w w'

theorem mul_bd {wd : Nat} {k : Int} {B : Int} (h1 : wd ≤ 4) (hk : -B ≤ k ∧ k ≤ B) : -(4 * B) ≤ (wd : Int) * k ∧ (wd : Int) * k ≤ 4 * B := by
  have h0 : 0 ≤ (wd : Int) := by omega
  have a1 := Int.mul_le_mul_of_nonneg_left hk.1 h0
  have a2 := Int.mul_le_mul_of_nonneg_left hk.2 h0
  have hB : 0 ≤ B := by omega
  have a3 : (wd : Int) * B ≤ 4 * B := Int.mul_le_mul_of_nonneg_right (by omega) hB
  have a4 : (wd : Int) * -B = -((wd : Int) * B) := Int.mul_neg _ _
  omega

theorem ediv_abs {x B : Int} {wd : Nat} (h0 : 1 ≤ wd) (h : -B ≤ x ∧ x ≤ B) : -B ≤ x / wd ∧ x / wd ≤ B := by
  have h1 := ediv_bd x wd h0
  have hB : 0 ≤ B := by omega
  generalize x / (wd : Int) = y at *
  constructor
  · rcases Int.lt_or_le y (-B) with h2 | h2
    · have h3 : (wd : Int) * (y + 1) ≤ wd * (-B) := Int.mul_le_mul_of_nonneg_left (by omega) (by omega)
      have h4 : (wd : Int) * (-B) ≤ 1 * (-B) := Int.mul_le_mul_of_nonpos_right (by omega) (by omega)
      rw [Int.mul_add] at h3
      omega
    · exact h2
  · rcases Int.lt_or_le B y with h2 | h2
    · have h3 : (wd : Int) * (B + 1) ≤ wd * y := Int.mul_le_mul_of_nonneg_left (by omega) (by omega)
      have h4 : 1 * (B + 1) ≤ (wd : Int) * (B + 1) := Int.mul_le_mul_of_nonneg_right (by omega) (by omega)
      omega
    · exact h2

theorem u32_and1 {n : Nat} (h : n < 4294967296) : bits .and .u32 (n : Int) 1 = ((n % 2 : Nat) : Int) := by
  have h1 : (BitVec.ofInt 32 1).toNat = 2 ^ 1 - 1 := by decide
  have h2 : (BitVec.ofInt 32 (n : Int)).toNat = n := by rw [BitVec.ofInt_natCast, BitVec.toNat_ofNat, Nat.mod_eq_of_lt h]
  have key : (BitVec.ofInt 32 (n : Int) &&& BitVec.ofInt 32 1).toNat = n % 2 := by
    rw [BitVec.toNat_and, h2, h1, Nat.and_two_pow_sub_one_eq_mod]
  show IntKind.u32.wrap ((BitVec.ofInt 32 (n : Int) &&& BitVec.ofInt 32 1).toNat : Nat) = _
  rw [key]
  have : n % 2 < 2 := Nat.mod_lt _ (by omega)
  generalize n % 2 = r at *
  obtain rfl | rfl : r = 0 ∨ r = 1 := by omega
  · rfl
  · rfl

set_option maxHeartbeats 16000000 in
set_option maxRecDepth 100000 in
theorem fit_any (ng : Bool) (p q : Option Addr) (c d : Nat) (num den : Nat) (e : Int) (g : Gd) (way K : Int) (w : World) (hp : Rd w .u32 p (dig B32 num)) (hq : Rd w .u32 q (dig B32 den))
    (hl : (dig B32 num).length ≤ 100000) (hl2 : (dig B32 den).length ≤ 100000) (hn : 0 < num) (hd : 0 < den) (he : -1000000 ≤ e ∧ e ≤ 1000000) (G : GoodG g) (hw1 : 1 ≤ way) (hw2 : way ≤ 5) (hK : IsK num den e (wid g) g.digs.toNat K) :
    Calls Tryd.prog 57 #[.agg #[.bool ng, .slice p (dig B32 num).length c, .slice q (dig B32 den).length d, .int .i64 e], .agg #[.int .i64 g.rad, .int .i64 g.digs, .int .i64 g.lo, .int .i64 g.hi, .bool g.grad], .int .i64 way] w (GivesP w (fitK ng num den e g way K)) := by
  obtain ⟨_, gd1, gd2, gl1, gl2, gh1, gh2, gle⟩ := G
  obtain ⟨f, hf, hF, hcf⟩ := wayF_spec hw1 hw2
  have HCF := Lib.hid hcf
  clear hcf
  have HF := Lib.hid hF
  have HF0 := Lib.hid hf
  obtain ⟨pf, hpf⟩ : ∃ pf, fitK ng num den e g way K = pf := ⟨_, rfl⟩
  rw [hpf]
  have HPF := Lib.hid hpf
  have HWD := fun W => Lib.hid (width_any g W)
  have wp := wid_pos g
  obtain ⟨wd, hwd⟩ : ∃ wd, wid g = wd := ⟨_, rfl⟩
  rw [hwd] at wp HWD hK
  have HW := Lib.hid hwd
  obtain ⟨rad, digs, lo, hi, grad⟩ := g
  simp only at *
  obtain ⟨D, rfl⟩ : ∃ D : Nat, digs = D := ⟨digs.toNat, by omega⟩
  rw [Int.toNat_natCast] at hK
  have hD : 1 ≤ D := by omega
  have hden0 : 0 < (dig B32 den).length := by have := dig_len_zero B32_two den; omega
  have bn := blen_len32 num
  have bd := blen_len32 den
  obtain ⟨F1, F2⟩ := fullP_bd hn hd e (w := wd) (D := D) (by omega) hD _ rfl
  obtain ⟨x, hx⟩ : ∃ x : Int, (blen num : Int) - blen den + e = x := ⟨_, rfl⟩
  have hxb : -5000000 ≤ x ∧ x ≤ 5000000 := by omega
  have hxw := ediv_abs (wd := wd) wp.1 hxb
  have e0 : IntKind.i64.wrap ((blen num : Int) - blen den) = (blen num : Int) - blen den := IntWalk.i64_in _ (by omega)
  have e1 : IntKind.i64.wrap ((blen num : Int) - blen den + e) = x := by rw [IntWalk.i64_in _ (by omega), hx]
  rw [hx] at F1 F2
  have HX := Lib.hid hx
  have hK1 := hK.le hd F1
  have hK2 : K ≤ x / wd - D + 1 := by
    rcases Int.lt_or_le (x / wd - D + 1) K with h | h
    · exact absurd (fullP_anti hd hK.yes (by omega)) F2
    · exact h
  have HK := Lib.hid hK
  clear hF hf hpf hwd hx F1 F2 hK
  go_enter Tryd.func57, Tryd.ntmps57
  go_wp2_with fail
  refine calls_lay3 (fun W1 hb1 hz1 Q G R => ?_)
  replace hp := hp.past hb1
  replace hq := hq.past hb1
  have hs1 := hb1
  ((with_reducible refine ((HWD _).out).mono ?_))
  rintro e2 w2 ⟨rfl, hb2⟩
  replace Q := Q.past hb2
  replace G := G.past hb2
  replace R := R.past hb2
  replace hp := hp.past hb2
  replace hq := hq.past hb2
  have hs2 := hs1.trans (hb2.mono hs1.size)
  obtain ⟨Q_0, Q_1, Q_2, Q_3⟩ := Q.e4
  obtain ⟨G_0, G_1, G_2, G_3, G_4⟩ := G.e5
  obtain ⟨R_0, R_1, R_2, R_3, R_4, R_5⟩ := R.e6
  go_wp2_with fail
  clear Q_0 Q_1 Q_2 Q_3 G_0 G_1 G_2 G_3 G_4 R_0 R_1 R_2 R_3 R_4 R_5
  obtain ⟨Q_0, Q_1, Q_2, Q_3⟩ := Q.e4
  go_quiet ((first | (go_at_call_of 94 (Value.slice p (dig B32 num).length c); exact Calls.quiet_of_same ((len_any p _ c num _ (hp.drewN _) rfl (by omega)).mono fun _ _ h => ⟨h.1, h.2.symm⟩)) | (go_at_call_of 94 (Value.slice q (dig B32 den).length d); exact Calls.quiet_of_same ((len_any q _ d den _ (hq.drewN _) rfl (by omega)).mono fun _ _ h => ⟨h.1, h.2.symm⟩))))
  clear Q_0 Q_1 Q_2 Q_3
  have hb3 := below_drewN (Below.refl (w2).heap.size (w2)) nq
  replace Q := Q.past hb3
  replace G := G.past hb3
  replace R := R.past hb3
  replace hp := hp.past hb3
  replace hq := hq.past hb3
  have hs3 := hs2.trans (hb3.mono hs2.size)
  generalize (w2).drewN nq = w3 at *
  clear e0 e1
  obtain ⟨Q_0, Q_1, Q_2, Q_3⟩ := Q.e4
  obtain ⟨G_0, G_1, G_2, G_3, G_4⟩ := G.e5
  obtain ⟨R_0, R_1, R_2, R_3, R_4, R_5⟩ := R.e6
  go_wp2_with fail
  clear Q_0 Q_1 Q_2 Q_3 G_0 G_1 G_2 G_3 G_4 R_0 R_1 R_2 R_3 R_4 R_5
  have e0 : IntKind.i64.wrap (x / (wd : Int) - (D : Int)) = x / wd - D := IntWalk.i64_in _ (by omega)
  have e1 : IntKind.i64.wrap (x / (wd : Int) - (D : Int) + 1) = x / wd - D + 1 := IntWalk.i64_in _ (by omega)
  obtain ⟨G_0, G_1, G_2, G_3, G_4⟩ := G.e5
  go_quiet ((go_at_call 104; exact Calls.quiet_of_same ((gfloor_any x wd _ (by clear e0 e1; omega) wp.1 (by clear e0 e1; omega)).mono fun _ _ h => ⟨h.1, h.2.symm⟩)))
  clear G_0 G_1 G_2 G_3 G_4
  have hb4 := below_drewN (Below.refl (w3).heap.size (w3)) nq
  replace Q := Q.past hb4
  replace G := G.past hb4
  replace R := R.past hb4
  replace hp := hp.past hb4
  replace hq := hq.past hb4
  have hs4 := hs3.trans (hb4.mono hs3.size)
  generalize (w3).drewN nq = w4 at *
  clear e0 e1
  obtain ⟨k0, hk0⟩ : ∃ k0, x / (wd : Int) - D + 1 = k0 := ⟨_, rfl⟩
  have hk0b : -6000000 ≤ k0 ∧ k0 ≤ 6000000 := by omega
  rw [hk0] at hK2 ⊢
  have hK1 : k0 - 1 ≤ K := by omega
  have hm0 : -5001000 ≤ (wd : Int) * k0 ∧ (wd : Int) * k0 ≤ 5001000 := by
    have h1 := ediv_bd x wd wp.1
    have h2 : (wd : Int) * k0 = wd * (x / wd) - wd * D + wd := by rw [← hk0]; grind
    have h3 : (wd : Int) * D ≤ 4 * 120 := Int.mul_le_mul (by omega) (by omega) (by omega) (by omega)
    have h4 : 0 ≤ (wd : Int) * D := Int.mul_nonneg (by omega) (by omega)
    omega
  clear hk0 hxw
  go_wp2_with fail
  obtain ⟨N1, hN1⟩ : ∃ N1 : Nat, N1 = wd * (D - 1) := ⟨_, rfl⟩
  have hN1b : N1 ≤ 480 := by rw [hN1]; exact Nat.le_trans (Nat.mul_le_mul wp.2 (show D - 1 ≤ 120 by omega)) (by omega)
  have e0 : IntKind.i64.wrap ((D : Int) - 1) = ((D - 1 : Nat) : Int) := by rw [IntWalk.i64_in _ (by omega)]; omega
  have e1 : IntKind.i64.wrap ((wd : Int) * ((D - 1 : Nat) : Int)) = (N1 : Int) := by rw [IntWalk.i64_in _ (by rw [← Int.natCast_mul, ← hN1]; omega), ← Int.natCast_mul, ← hN1]
  have HN1 := Lib.hid hN1
  clear hN1
  have l1 : (dig B32 1).length ≤ 1 := by rw [dig_len_le B32_two]; unfold B32; omega
  have hz4 := hs4.size
  go_cut [10] (fun s10 wx => ∃ (pw : Option Addr) (cw : Nat), s10 = .slice pw (dig B32 (2 ^ N1)).length cw ∧ Own wx w4.heap.size .u32 91 pw cw (dig B32 (2 ^ N1)) ∧ Below w4.heap.size w4 wx)
  case first =>
    go_region_held3 (fun w' => w'.cell? ⟨w.heap.size + 1, 1, none⟩ = some (.int .i64 D))
      (first | with_reducible exact G.e5.2.1 | with_reducible exact G.drew.e5.2.1 | with_reducible exact (G.drew.past hbx).e5.2.1 | with_reducible exact ((G.drew.past hbx).past hby).e5.2.1)
      (first
        | (go_at_call 96; refine (of_any 1 _ (by clear e0 e1; omega)).mono ?_; rintro ex wx ⟨px, cx, rfl, hox, hbx⟩)
        | (go_at_call 90; refine (shl_any px _ cx 1 N1 _ hox.rd rfl (by clear e0 e1; omega) (by clear e0 e1; omega)).mono ?_; rw [Nat.one_mul]; rintro ey wy ⟨py, cy, rfl, hoy, hby⟩))
    all_goals (clear e0 e1)
    all_goals (go_wp2_with fail)
    all_goals go_meet
    all_goals (exact ⟨py, cy, rfl, hoy.mono hbx.size, ((Below.refl _ _).drew.trans hbx).trans (hby.mono hbx.size)⟩)
  case rest =>
    obtain ⟨pw, cw, rfl, how, hb5⟩ := hcut
    clear e0 e1
    replace Q := Q.past hb5
    replace G := G.past hb5
    replace R := R.past hb5
    replace hp := hp.past hb5
    replace hq := hq.past hb5
    have hs5 := hs4.trans (hb5.mono hs4.size)
    have hsw5 : W1.heap.size ≤ wc.heap.size := by have := hb2.size; have := hb3.size; have := hb4.size; have := hb5.size; omega
    have hz4w : W1.heap.size ≤ w4.heap.size := by have := hb2.size; have := hb3.size; have := hb4.size; omega
    clear hb5
    obtain ⟨Q_0, Q_1, Q_2, Q_3⟩ := Q.e4
    go_wp2_with fail
    clear Q_0 Q_1 Q_2 Q_3
    ((with_reducible refine (scaled_any p q _ _ c d num den (e - (wd : Int) * k0) _ hp hq rfl rfl (by omega) (by omega) hd (by omega)).mono ?_))
    rintro e6 w6 ⟨p1, c1, q1, d1, r1, f1, rfl, ho1, ho2, hr3, -, hb6⟩
    replace Q := Q.past hb6
    replace G := G.past hb6
    replace R := R.past hb6
    replace hp := hp.past hb6
    replace hq := hq.past hb6
    have hs6 := hs5.trans (hb6.mono hs5.size)
    have how := how.past hb6
    go_wp2_with fail
    go_loopg [9, 11, 12, 13] (k0 - K).toNat (fun gk kv av bv cv wr => ∃ (k : Int) (p2 q2 r2 : Option Addr) (c2 d2 f2 : Nat), kv = .int .i64 k ∧ (gk : Int) = k - K ∧ k ≤ k0 ∧ K ≤ k ∧
      av = .slice p2 (dig B32 (qP num den (e - wd * k))).length c2 ∧ bv = .slice q2 (dig B32 (rP num den (e - wd * k))).length d2 ∧ cv = .slice r2 (dig B32 (denP den (e - wd * k))).length f2 ∧
      Own wr W1.heap.size .u32 91 p2 c2 (dig B32 (qP num den (e - wd * k))) ∧ Own wr W1.heap.size .u32 91 q2 d2 (dig B32 (rP num den (e - wd * k))) ∧ Rd wr .u32 r2 (dig B32 (denP den (e - wd * k))) ∧ Below w6.heap.size w6 wr)
    case atStart => exact ⟨k0, p1, q1, r1, c1, d1, f1, rfl, by omega, by omega, by omega, rfl, rfl, rfl, ho1.mono hsw5, ho2.mono hsw5, hr3, Below.refl _ _⟩
    case round =>
      obtain ⟨k, p2, q2, r2, c2, d2, f2, rfl, hgk, hkk, hKk, rfl, rfl, rfl, ho4, ho5, hr6, hb7⟩ := hrel
      have hs7 := hs6.trans (hb7.mono hs6.size)
      replace Q := Q.past hb7
      replace G := G.past hb7
      replace R := R.past hb7
      replace hp := hp.past hb7
      replace hq := hq.past hb7
      replace how := how.past hb7
      have hmk : -5002000 ≤ (wd : Int) * k ∧ (wd : Int) * k ≤ 5002000 := by
        have hkd : k = k0 ∨ k = k0 - 1 := by omega
        rcases hkd with rfl | rfl
        · omega
        · rw [Int.mul_sub]; omega
      have lq : (dig B32 (qP num den (e - wd * k))).length ≤ 1400000 := Nat.le_trans (dig_len_mono B32_two (Nat.div_le_self _ _)) (numP_len (by omega) (by omega))
      have lw : (dig B32 (2 ^ N1)).length ≤ 16 := pow_small_len hN1b
      by_cases hfull : FullP num den e wd D k
      · have hkK : k = K := by have := HK.out.le hd hfull; omega
        subst hkK
        have hC : 0 ≤ cmpN (qP num den (e - wd * k)) (2 ^ N1) := by
          unfold FullP at hfull
          rw [← HN1.out] at hfull
          unfold cmpN; rw [if_neg (by omega)]; split <;> omega
        clear hfull
        go_wp2_with fail
        ((with_reducible refine (cmp_any p2 pw _ _ c2 cw _ _ _ ho4.rd how.rd rfl rfl (by omega) (by omega)).mono ?_))
        rintro e8 w8 ⟨rfl, hb8⟩
        replace Q := Q.past hb8
        replace G := G.past hb8
        replace R := R.past hb8
        replace hp := hp.past hb8
        replace hq := hq.past hb8
        replace how := how.past hb8
        replace ho4 := ho4.past hb8
        replace ho5 := ho5.past hb8
        replace hr6 := hr6.past hb8
        have hs8 := hs7.trans (hb8.mono hs7.size)
        obtain ⟨k1, hk1⟩ : ∃ k1, powK ⟨rad, D, lo, hi, grad⟩ k = k1 := ⟨_, rfl⟩
        have HK1 := Lib.hid hk1
        have hmk1 : -5003000 ≤ (wd : Int) * k1 ∧ (wd : Int) * k1 ≤ 5003000 := by
          have hlo := mul_bd (k := lo) wp.2 (B := 17000) ⟨by omega, by omega⟩
          rw [← hk1]; unfold powK; split
          · simp only; omega
          · omega
        have hk1b : -7000000 ≤ k1 ∧ k1 ≤ 7000000 := by
          rw [← hk1]; unfold powK; split
          · simp only; omega
          · omega
        clear hk1
        obtain ⟨un, hun⟩ : ∃ un, decide (k < lo) = un := ⟨_, rfl⟩
        have hz8 := R.lt
        have hsw8 : W1.heap.size ≤ w8.heap.size := by have := hb6.size; have := hb7.size; have := hb8.size; omega
        obtain ⟨Q_0, Q_1, Q_2, Q_3⟩ := Q.e4
        obtain ⟨G_0, G_1, G_2, G_3, G_4⟩ := G.e5
        go_upto_region 10 with (fail)
        clear Q_0 Q_1 Q_2 Q_3 G_0 G_1 G_2 G_3 G_4
        have HUN := Lib.hid hun
        clear hun
        have ho4o := ho4
        have ho5o := ho5
        have hr6o := hr6
        have hqo := hq
        have howo := how
        refine wp_lay1 (fun W9 hb9 hz9 P => ?_)
        replace Q := Q.past hb9
        replace G := G.past hb9
        replace R := R.past hb9
        replace hp := hp.past hb9
        replace hq := hq.past hb9
        replace how := how.past hb9
        replace ho4 := ho4.past hb9
        replace ho5 := ho5.past hb9
        replace hr6 := hr6.past hb9
        have hs9 := hs8.trans (hb9.mono hs8.size)
        obtain ⟨b1, hb1⟩ : ∃ b1, (un && grad) = b1 := ⟨_, rfl⟩
        have HB1 := Lib.hid hb1
        clear hb1
        have hp4 : p2.isSome = true → blk p2 ≠ w8.heap.size := fun h => by have := (ho4o.blk_lt h).2; omega
        have hp5 : q2.isSome = true → blk q2 ≠ w8.heap.size := fun h => by have := (ho5o.blk_lt h).2; omega
        have hp6 : 0 < (dig B32 (denP den (e - wd * k))).length → blk r2 ≠ w8.heap.size := fun h => by have := hr6o.lt h; omega
        have hpq : 0 < (dig B32 den).length → blk q ≠ w8.heap.size := fun h => by have := hqo.lt h; omega
        have hpw : pw.isSome = true → blk pw ≠ w8.heap.size := fun h => by have := (howo.blk_lt h).2; omega
        clear ho4o ho5o hr6o hqo howo
        go_cut [90] (fun s90 wx => s90 = .bool b1 ∧ wx = W9)
        case first =>
          obtain ⟨P_0, P_1, P_2, P_3, P_4, P_5⟩ := P.e6
          obtain ⟨G_0, G_1, G_2, G_3, G_4⟩ := G.e5
          cases un <;> cases grad <;> (go_wp2_with fail; go_meet; exact ⟨by rw [← HB1.out]; rfl, rfl⟩)
        case rest =>
          obtain ⟨rfl, rfl⟩ := hcut
          go_upto_if 90 with (fail)
          go_cut [9, 11, 12, 13] (fun s9 s11 s12 s13 wx => ∃ (p3 q3 r3 : Option Addr) (c3 d3 f3 : Nat), s9 = .int .i64 k1 ∧ s11 = .slice p3 (dig B32 (qP num den (e - wd * k1))).length c3 ∧ s12 = .slice q3 (dig B32 (rP num den (e - wd * k1))).length d3 ∧ s13 = .slice r3 (dig B32 (denP den (e - wd * k1))).length f3 ∧
            Own wx W1.heap.size .u32 91 p3 c3 (dig B32 (qP num den (e - wd * k1))) ∧ Own wx W1.heap.size .u32 91 q3 d3 (dig B32 (rP num den (e - wd * k1))) ∧ Rd wx .u32 r3 (dig B32 (denP den (e - wd * k1))) ∧
            (p3.isSome = true → blk p3 ≠ w8.heap.size) ∧ (q3.isSome = true → blk q3 ≠ w8.heap.size) ∧ (0 < (dig B32 (denP den (e - wd * k1))).length → blk r3 ≠ w8.heap.size) ∧ Below wc.heap.size wc wx)
          case first =>
            cases b1
            · obtain rfl : k = k1 := by
                have h1 := HK1.out; have h2 := HB1.out; have h3 := HUN.out
                unfold powK at h1
                rw [if_neg (by rintro ⟨a1, a2⟩; simp only at a1 a2; subst a2; rw [← h3, decide_eq_true a1] at h2; simp at h2)] at h1
                exact h1
              go_wp2_with fail
              go_meet
              exact ⟨p2, q2, r2, c2, d2, f2, rfl, rfl, rfl, rfl, ho4, ho5, hr6, hp4, hp5, hp6, Below.refl _ _⟩
            · obtain rfl : lo = k1 := by
                have h1 := HK1.out; have h2 := HB1.out; have h3 := HUN.out
                unfold powK at h1
                rw [if_pos ⟨by cases un; (simp at h2); simpa using h3, by cases un; (simp at h2); simpa using h2⟩] at h1
                exact h1
              obtain ⟨Q_0, Q_1, Q_2, Q_3⟩ := Q.e4
              obtain ⟨G_0, G_1, G_2, G_3, G_4⟩ := G.e5
              go_wp2_with fail
              clear Q_0 Q_1 Q_2 Q_3 G_0 G_1 G_2 G_3 G_4
              have hzc : W1.heap.size ≤ wc.heap.size := by omega
              ((with_reducible refine (scaled_any p q _ _ c d num den (e - (wd : Int) * lo) _ hp hq rfl rfl (by omega) (by omega) hd (by omega)).mono ?_))
              rintro e10 w10 ⟨p3, c3, q3, d3, r3, f3, rfl, ho7, ho8, hr9, hrq, hb10⟩
              replace Q := Q.past hb10
              replace G := G.past hb10
              replace R := R.past hb10
              replace P := P.past hb10
              replace hp := hp.past hb10
              replace hq := hq.past hb10
              replace how := how.past hb10
              replace ho4 := ho4.past hb10
              replace ho5 := ho5.past hb10
              replace hr6 := hr6.past hb10
              have hs10 := hs9.trans (hb10.mono hs9.size)
              have hzP := P.lt
              go_wp2_with fail
              go_meet
              refine ⟨p3, q3, r3, c3, d3, f3, rfl, rfl, rfl, rfl, ho7.mono hzc, ho8.mono hzc, hr9, fun h => ?_, fun h => ?_, fun h => ?_, hb10⟩
              · have := (ho7.blk_lt h).1; omega
              · have := (ho8.blk_lt h).1; omega
              · rcases hrq with rfl | hrq
                · exact hpq hden0
                · have := hrq h; omega
          case rest =>
            obtain ⟨p3, q3, r3, c3, d3, f3, rfl, rfl, rfl, rfl, ho7, ho8, hr9, hn7, hn8, hn9, hbc⟩ := hcut
            have hs10 := hs9.trans (hbc.mono hs9.size)
            have hzz : W1.heap.size ≤ wc.heap.size := by have := hbc.size; omega
            replace Q := Q.past hbc
            replace G := G.past hbc
            replace R := R.past hbc
            replace P := P.past hbc
            replace how := how.past hbc
            clear hbc
            have lX : (dig B32 (qP num den (e - wd * k1))).length ≤ 1400000 := Nat.le_trans (dig_len_mono B32_two (Nat.div_le_self _ _)) (numP_len (by omega) (by omega))
            have lZ : (dig B32 (denP den (e - wd * k1))).length ≤ 1400000 := denP_len (by omega) (by omega)
            have lY : (dig B32 (rP num den (e - wd * k1))).length ≤ 1400000 := Nat.le_trans (dig_len_mono B32_two (Nat.le_of_lt (Nat.mod_lt _ (denP_pos hd _)))) lZ
            obtain ⟨X, hX⟩ : ∃ X, qP num den (e - wd * k1) = X := ⟨_, rfl⟩
            obtain ⟨Y, hY⟩ : ∃ Y, rP num den (e - wd * k1) = Y := ⟨_, rfl⟩
            obtain ⟨Z, hZ⟩ : ∃ Z, denP den (e - wd * k1) = Z := ⟨_, rfl⟩
            rw [hX] at ho7 lX ⊢
            rw [hY] at ho8 lY ⊢
            rw [hZ] at hr9 hn9 lZ ⊢
            have HXX := Lib.hid hX
            have HYY := Lib.hid hY
            have HZZ := Lib.hid hZ
            obtain ⟨xb, hxb⟩ : ∃ xb, (((dig B32 Y).length : Int) == 0) = xb := ⟨_, rfl⟩
            clear hX hY hZ
            obtain ⟨P_0, P_1, P_2, P_3, P_4, P_5⟩ := P.e6
            have P_f0 := P.f 0
            have P_f1 := P.f 1
            have P_f2 := P.f 2
            have P_f3 := P.f 3
            have P_f4 := P.f 4
            have P_f5 := P.f 5
            go_upto_region 14 with (fail)
            clear P_0 P_1 P_2 P_3 P_4 P_5 P_f0 P_f1 P_f2 P_f3 P_f4 P_f5
            refine wp_set P (fun W11 hO11 P => ?_)
            replace P : Bx W11 w8.heap.size #[.bool ng, .slice none 0 0, .int .i64 0, .bool xb, .bool false, .bool un] := P
            replace Q := Q.only hO11 (by omega)
            replace G := G.only hO11 (by omega)
            replace R := R.only hO11 (by omega)
            replace ho7 := ho7.only hO11 hn7
            replace ho8 := ho8.only hO11 hn8
            replace hr9 := hr9.only hO11 hn9
            replace how := how.only hO11 hpw
            have hs11 := hs10.trans (hO11.below (B := w.heap.size) (by omega))
            have hzz : W1.heap.size ≤ W11.heap.size := by have := hO11.size; omega
            clear hO11
            obtain ⟨od, hod⟩ : ∃ od, decide (X % 2 = 1) = od := ⟨_, rfl⟩
            have HOD := Lib.hid hod
            have HXB := Lib.hid hxb
            clear hod hxb
            go_cut [15] (fun s15 wx => s15 = .bool od ∧ wx = W11)
            case first =>
              by_cases hX0 : 0 < (dig B32 X).length
              · have hx0 : 0 < X := by have := dig_len_zero B32_two X; omega
                rcases ho7.form with ⟨_, _, h⟩ | ⟨gX, rfl, _, _, _, _⟩
                · rw [h] at hX0; simp at hX0
                · have hcell := ho7.rd.cells 0 hX0
                  have hd0 : dg (dig B32 X) 0 = X % B32 := by rw [dig_pos B32_two hx0]; rfl
                  rw [hd0] at hcell
                  have hlt0 : X % B32 < 4294967296 := Nat.mod_lt _ B32_pos
                  have hbit : (bits BinOp.and IntKind.u32 ((X % B32 : Nat) : Int) 1 == 1) = od := by
                    rw [u32_and1 hlt0, ← HOD.out, show X % B32 % 2 = X % 2 by unfold B32; omega]
                    by_cases h : X % 2 = 1
                    · rw [h]; rfl
                    · rw [show X % 2 = 0 by omega]; rfl
                  generalize X % B32 = x0 at *
                  change W11.cell? ⟨gX, 0, none⟩ = _ at hcell
                  clear hd0
                  go_wp2_with fail
                  go_meet
                  exact ⟨rfl, rfl⟩
              · have hx0 : X = 0 := by have := dig_len_zero B32_two X; omega
                have hod0 : od = false := by rw [← HOD.out, hx0]; rfl
                subst hod0
                have hX1 : ¬ (0 : Int) < ((dig B32 X).length : Int) := by omega
                clear hx0
                go_wp2_with fail
                go_meet
                exact ⟨rfl, rfl⟩
            case rest =>
              obtain ⟨rfl, rfl⟩ := hcut
              obtain ⟨ub, hub⟩ : ∃ ub, upP ng num den e wd way k1 = ub := ⟨_, rfl⟩
              have HUB := Lib.hid hub
              clear hub
              go_upto_region 15 with (fail)
              go_cut [137] (fun s wx => s = .bool ub ∧ Below wc.heap.size wc wx)
              case first =>
                have hYY := HYY.out
                have hXX := HXX.out
                have hZZ := HZZ.out
                have hUB := HUB.out
                unfold upP at hUB
                rw [hYY, hXX, hZZ, HOD.out] at hUB
                have HUB2 := Lib.hid hUB
                clear hYY hXX hZZ hUB
                cases xb
                · have hY0 : Y ≠ 0 := by
                    have := HXB.out
                    intro h0
                    rw [h0, dig_zero] at this
                    simp at this
                  have HU3 : Hid (awayP way ng od (cmpN (Y * 2) Z) = ub) := by
                    have := HUB2.out
                    rw [decide_eq_true hY0, Bool.true_and] at this
                    exact this
                  have HLK := fun W b (hW : Ways W b) => Lib.hid (look_in hW hw1 hw2)
                  rw [HF0.out] at HLK
                  have lY2 : (dig B32 (Y * 2)).length ≤ 1500000 := by have := len_shl' Y 1 _ lY; rw [Nat.pow_one] at this; omega
                  have hcf := HCF.out
                  have hzd : wc.drew.heap.size = wc.heap.size := rfl
                  have HZD := Lib.hid hzd
                  clear hY0 hzd
                  go_region_held3 (fun w' => w'.cell? ⟨w8.heap.size, 3, none⟩ = some (.bool false) ∧ w'.cell? ⟨w.heap.size, 0, none⟩ = some (.bool ng))
                    (first 
                    | with_reducible exact ⟨P.e6.2.2.2.1, Q.e4.1⟩ 
                    | with_reducible exact ⟨(P.drew).e6.2.2.2.1, (Q.drew).e4.1⟩ 
                    | with_reducible exact ⟨((P.drew).past hbu).e6.2.2.2.1, ((Q.drew).past hbu).e4.1⟩ 
                    | with_reducible exact ⟨((P.drew).past hbs).e6.2.2.2.1, ((Q.drew).past hbs).e4.1⟩ 
                    | with_reducible exact ⟨(((P.drew).past hbu).past hbs).e6.2.2.2.1, (((Q.drew).past hbu).past hbs).e4.1⟩ 
                    | with_reducible exact ⟨(((P.drew).past hbs).past hbu).e6.2.2.2.1, (((Q.drew).past hbs).past hbu).e4.1⟩ 
                    | with_reducible exact ⟨(((P.drew).past hbs).past hbk).e6.2.2.2.1, (((Q.drew).past hbs).past hbk).e4.1⟩ 
                    | with_reducible exact ⟨((((P.drew).past hbu).past hbs).past hbk).e6.2.2.2.1, ((((Q.drew).past hbu).past hbs).past hbk).e4.1⟩ 
                    | with_reducible exact ⟨((((P.drew).past hbs).past hbu).past hbk).e6.2.2.2.1, ((((Q.drew).past hbs).past hbu).past hbk).e4.1⟩ 
                    | with_reducible exact ⟨((((P.drew).past hbs).past hbk).past hbu).e6.2.2.2.1, ((((Q.drew).past hbs).past hbk).past hbu).e4.1⟩)
                    (first
                      | (go_at_call 102; refine (ups_any _).mono ?_; rintro eu wu ⟨rfl, hwu, hbu⟩; (first | have hlu := (HLK _ wc.heap.size hwu).out | have hlu := (HLK _ _ hwu).out))
                      | (go_at_call 90; refine (shl_any q3 _ d3 Y 1 _ ?_ rfl (by omega) (by omega)).mono ?_; (first | exact (ho8.rd.drew) | exact ((ho8.rd.drew).past hbu) | exact ((ho8.rd.drew).past hbs) | exact (((ho8.rd.drew).past hbu).past hbs) | exact (((ho8.rd.drew).past hbs).past hbu) | exact (((ho8.rd.drew).past hbs).past hbk) | exact ((((ho8.rd.drew).past hbu).past hbs).past hbk) | exact ((((ho8.rd.drew).past hbs).past hbu).past hbk) | exact ((((ho8.rd.drew).past hbs).past hbk).past hbu)); rw [Nat.pow_one]; rintro es ws ⟨ps, cs, rfl, hos, hbs⟩; (first | have hls := (HLK _ wc.heap.size (hwu.past hbs)).out | skip))
                      | (go_at_call 91; refine (cmp_any ps r3 _ _ cs f3 _ _ _ ?_ ?_ rfl rfl (by omega) (by omega)).mono ?_; (first | exact hos.rd | exact hos.rd.past hbu); (first | exact (hr9.drew) | exact ((hr9.drew).past hbu) | exact ((hr9.drew).past hbs) | exact (((hr9.drew).past hbu).past hbs) | exact (((hr9.drew).past hbs).past hbu) | exact (((hr9.drew).past hbs).past hbk) | exact ((((hr9.drew).past hbu).past hbs).past hbk) | exact ((((hr9.drew).past hbs).past hbu).past hbk) | exact ((((hr9.drew).past hbs).past hbk).past hbu)); rintro ek wk ⟨rfl, hbk⟩; (first | (have hlk := (HLK _ wc.heap.size (hwu.past hbk)).out) | (have hlk := (HLK _ _ (hwu.past hbk)).out) | (have hlk := (HLK _ wc.heap.size ((hwu.past hbs).past hbk)).out) | skip))
                      | (refine (HF.out _ _ _ _).mono ?_; rintro ef wf ⟨rfl, rfl⟩))
                  all_goals (clear hcf)
                  all_goals (go_wp2_with fail)
                  all_goals go_meet
                  all_goals (refine ⟨by rw [HU3.out], ?_⟩)
                  all_goals (first
                    | exact (((Below.refl _ _).drew.trans hbu).trans (hbs.mono hbu.size)).trans (hbk.mono (Nat.le_trans hbu.size hbs.size))
                    | exact (((Below.refl _ _).drew.trans hbs).trans (hbu.mono hbs.size)).trans (hbk.mono (Nat.le_trans hbs.size hbu.size))
                    | exact (((Below.refl _ _).drew.trans hbs).trans (hbk.mono hbs.size)).trans (hbu.mono (Nat.le_trans hbs.size hbk.size)))
                · have hub0 : ub = false := by
                    have h0 : Y = 0 := by
                      have := HXB.out
                      have h1 := dig_len_zero B32_two Y
                      have h2 : ((dig B32 Y).length : Int) = 0 := by simpa using this
                      omega
                    have := HUB2.out
                    rw [h0] at this
                    simpa using this.symm
                  subst hub0
                  obtain ⟨P_0, P_1, P_2, P_3, P_4, P_5⟩ := P.e6
                  go_quiet (fail)
                  go_wp2_with fail
                  go_meet
                  exact ⟨rfl, below_drewN (Below.refl _ _) _⟩
              case rest =>
                obtain ⟨rfl, hbc⟩ := hcut
                have hs12 := hs11.trans (hbc.mono hs11.size)
                have hzz : W1.heap.size ≤ wc.heap.size := by have := hbc.size; omega
                replace Q := Q.past hbc
                replace G := G.past hbc
                replace R := R.past hbc
                replace P := P.past hbc
                replace how := how.past hbc
                replace ho7 := ho7.past hbc
                clear hbc hr9 ho8
                obtain ⟨dd, hdd⟩ : ∃ dd, digP ng num den e wd D way k1 = dd := ⟨_, rfl⟩
                obtain ⟨k2, hk2⟩ : ∃ k2, powP ng num den e wd D way k1 = k2 := ⟨_, rfl⟩
                have HDD : Hid (dd = (if ub = true ∧ wd * D < blen (X + if ub then 1 else 0) then 2 ^ N1 else X + if ub then 1 else 0) ∧ k2 = if ub = true ∧ wd * D < blen (X + if ub then 1 else 0) then k1 + 1 else k1) := by
                  rw [← hdd, ← hk2]
                  have h := digP_of (D := D) HUB.out HXX.out HN1.out
                  exact h
                have HDD0 := Lib.hid hdd
                have HKK0 := Lib.hid hk2
                clear hdd hk2
                go_upto_if 137 with (fail)
                go_cut [9, 11] (fun s9 s11 wx => ∃ (p4 : Option Addr) (c4 : Nat), s9 = .int .i64 k2 ∧ s11 = .slice p4 (dig B32 dd).length c4 ∧ Own wx W1.heap.size .u32 91 p4 c4 (dig B32 dd) ∧ (p4.isSome = true → blk p4 ≠ w8.heap.size) ∧ Below wc.heap.size wc wx)
                case first =>
                  cases ub
                  · obtain ⟨rfl, rfl⟩ : dd = X ∧ k2 = k1 := by simpa using HDD.out
                    go_wp2_with fail
                    go_meet
                    exact ⟨p3, c3, rfl, rfl, ho7, hn7, Below.refl _ _⟩
                  · have lX1 : (dig B32 (X + 1)).length ≤ 1500000 := by have := dig_len_add B32_two X 1; omega
                    have hP8 := P.lt
                    have hwz := hs12.size
                    have hbl := blen_len32 (X + 1)
                    go_wp2_with fail
                    ((with_reducible refine (gof_one _).mono ?_))
                    rintro e13 w13 ⟨p5, c5, rfl, ho5, hb13⟩
                    replace G := G.past hb13
                    replace ho7 := ho7.past hb13
                    replace how := how.past hb13
                    have hs13 := hb13
                    obtain ⟨G_0, G_1, G_2, G_3, G_4⟩ := G.e5
                    go_wp2_with fail
                    clear G_0 G_1 G_2 G_3 G_4
                    ((with_reducible refine (add_any p3 p5 _ _ c3 c5 X 1 _ ho7.rd ho5.rd rfl rfl (by omega) (by omega)).mono ?_))
                    rintro e14 w14 ⟨p6, c6, rfl, ho6, hb14⟩
                    replace G := G.past hb14
                    replace ho7 := ho7.past hb14
                    replace how := how.past hb14
                    replace ho5 := ho5.past hb14
                    have hs14 := hs13.trans (hb14.mono hs13.size)
                    obtain ⟨G_0, G_1, G_2, G_3, G_4⟩ := G.e5
                    go_wp2_with fail
                    clear G_0 G_1 G_2 G_3 G_4
                    have hwD : wd * D ≤ 480 := Nat.le_trans (Nat.mul_le_mul wp.2 (show D ≤ 120 by omega)) (by omega)
                    have e0 : IntKind.i64.wrap ((wd : Int) * (D : Int)) = ((wd * D : Nat) : Int) := by rw [IntWalk.i64_in _ (by rw [← Int.natCast_mul]; omega), Int.natCast_mul]
                    obtain ⟨G_0, G_1, G_2, G_3, G_4⟩ := G.e5
                    go_quiet ((go_at_call 94; exact Calls.quiet_of_same ((len_any p6 _ c6 (X + 1) _ (ho6.rd.drewN _) rfl (by clear e0; omega)).mono fun _ _ h => ⟨h.1, h.2.symm⟩)))
                    clear G_0 G_1 G_2 G_3 G_4
                    have hb15 := below_drewN (Below.refl (w14).heap.size (w14)) nq
                    replace G := G.past hb15
                    replace ho7 := ho7.past hb15
                    replace how := how.past hb15
                    replace ho5 := ho5.past hb15
                    replace ho6 := ho6.past hb15
                    have hs15 := hs14.trans (hb15.mono hs14.size)
                    generalize (w14).drewN nq = w15 at *
                    clear e0
                    have hz13 := hb13.size
                    have hz14 := hb14.size
                    by_cases hlong : wd * D < blen (X + 1)
                    · obtain ⟨rfl, rfl⟩ : dd = 2 ^ N1 ∧ k2 = k1 + 1 := by simpa [hlong] using HDD.out
                      go_wp2_with fail
                      go_meet
                      exact ⟨pw, cw, by go_num, rfl, how.mono hz4w, hpw, hs15⟩
                    · obtain ⟨rfl, rfl⟩ : dd = X + 1 ∧ k2 = k1 := by simpa [hlong] using HDD.out
                      go_wp2_with fail
                      go_meet
                      exact ⟨p6, c6, rfl, rfl, ho6.mono (Nat.le_trans hzz hz13), fun h => by have := (ho6.blk_lt h).1; omega, hs15⟩
                case rest =>
                  obtain ⟨p4, c4, rfl, rfl, ho10, hn10, hbc⟩ := hcut
                  have hs15 := hs12.trans (hbc.mono hs12.size)
                  replace Q := Q.past hbc
                  replace G := G.past hbc
                  replace R := R.past hbc
                  replace P := P.past hbc
                  clear hbc
                  obtain ⟨ov, hov⟩ : ∃ ov, decide (hi < k2) = ov := ⟨_, rfl⟩
                  have HPF2 : Hid (pf = ⟨ng, dd, if dd = 0 then 0 else k2, xb, ov, un⟩) := by
                    have h1 := HPF.out
                    rw [fitK_of HW.out (Int.toNat_natCast D) HK1.out HDD0.out HKK0.out HYY.out] at h1
                    have h6 := HXB.out; have h7 := HUN.out
                    simp only at h1
                    rw [hov, h7] at h1
                    rw [← h1]
                    have h9 : decide (Y = 0) = xb := by
                      rw [← h6]
                      have := dig_len_zero B32_two Y
                      by_cases h0 : Y = 0
                      · rw [decide_eq_true h0, h0, dig_zero]; rfl
                      · rw [decide_eq_false h0]; exact (beq_eq_false_iff_ne.2 (by omega)).symm
                    rw [h9]
                    rfl
                  obtain ⟨G_0, G_1, G_2, G_3, G_4⟩ := G.e5
                  obtain ⟨P_0, P_1, P_2, P_3, P_4, P_5⟩ := P.e6
                  have P_f0 := P.f 0
                  have P_f1 := P.f 1
                  have P_f2 := P.f 2
                  have P_f3 := P.f 3
                  have P_f4 := P.f 4
                  have P_f5 := P.f 5
                  go_upto_region 20 with (fail)
                  clear G_0 G_1 G_2 G_3 G_4 P_0 P_1 P_2 P_3 P_4 P_5 P_f0 P_f1 P_f2 P_f3 P_f4 P_f5
                  have HOV := Lib.hid hov
                  clear hov
                  refine wp_set P (fun W16 hO16 P => ?_)
                  replace P : Bx W16 w8.heap.size #[.bool ng, .slice none 0 0, .int .i64 0, .bool xb, .bool ov, .bool un] := P
                  replace R := R.only hO16 (by omega)
                  replace ho10 := ho10.only hO16 hn10
                  have hs16 := hs15.trans (hO16.below (B := w.heap.size) (by omega))
                  clear hO16
                  have hwP : w.heap.size ≤ w8.heap.size := by omega
                  by_cases hd0 : dd = 0
                  · have hdl : ¬ (0 : Int) < ((dig B32 dd).length : Int) := by rw [hd0, dig_zero]; simp
                    have hdl2 : ¬ 0 < (dig B32 dd).length := by omega
                    have HD0 := Lib.hid hd0
                    clear hd0
                    obtain ⟨P_0, P_1, P_2, P_3, P_4, P_5⟩ := P.e6
                    obtain ⟨R_0, R_1, R_2, R_3, R_4, R_5⟩ := R.e6
                    have R_f0 := R.f 0
                    have R_f1 := R.f 1
                    have R_f2 := R.f 2
                    have R_f3 := R.f 3
                    have R_f4 := R.f 4
                    have R_f5 := R.f 5
                    go_wp2_with fail
                    clear P_0 P_1 P_2 P_3 P_4 P_5 R_0 R_1 R_2 R_3 R_4 R_5 R_f0 R_f1 R_f2 R_f3 R_f4 R_f5
                    obtain ⟨R_0, R_1, R_2, R_3, R_4, R_5⟩ := R.e6
                    refine bodyPost_ret (v := .agg #[.bool ng, .slice none 0 0, .int .i64 0, .bool xb, .bool ov, .bool un]) (by simp [results, Tryd.results57, go_sem, R_0, R_1, R_2, R_3, R_4, R_5]) rfl ?_
                    rw [HPF2.out, if_pos HD0.out]
                    have hO := only6 W16 (w.heap.size + 1 + 1) (.bool ng) (.slice none 0 0) (.int .i64 0) (.bool xb) (.bool ov) (.bool un)
                    exact ⟨none, 0, by simp [HD0.out, dig_zero], by simp only [HD0.out, dig_zero]; exact Own.nil _ _ _ _, hs16.trans (hO.below (by omega))⟩
                  · have hdl : 0 < (dig B32 dd).length := by have := dig_len_zero B32_two dd; omega
                    have HD0 := Lib.hid hd0
                    clear hd0
                    obtain ⟨P_0, P_1, P_2, P_3, P_4, P_5⟩ := P.e6
                    have P_f0 := P.f 0
                    have P_f1 := P.f 1
                    have P_f2 := P.f 2
                    have P_f3 := P.f 3
                    have P_f4 := P.f 4
                    have P_f5 := P.f 5
                    go_upto_region 22 with (fail)
                    clear P_0 P_1 P_2 P_3 P_4 P_5 P_f0 P_f1 P_f2 P_f3 P_f4 P_f5
                    refine wp_set (P.set 1 _) (fun W17 hO17 P => ?_)
                    replace P : Bx W17 w8.heap.size #[.bool ng, .slice p4 (dig B32 dd).length c4, .int .i64 k2, .bool xb, .bool ov, .bool un] := P
                    replace hO17 := (only_set W16 w8.heap.size 1 _).trans hO17
                    replace R := R.only hO17 (by omega)
                    replace ho10 := ho10.only hO17 hn10
                    have hs17 := hs16.trans (hO17.below (B := w.heap.size) hwP)
                    clear hO17
                    obtain ⟨P_0, P_1, P_2, P_3, P_4, P_5⟩ := P.e6
                    obtain ⟨R_0, R_1, R_2, R_3, R_4, R_5⟩ := R.e6
                    have R_f0 := R.f 0
                    have R_f1 := R.f 1
                    have R_f2 := R.f 2
                    have R_f3 := R.f 3
                    have R_f4 := R.f 4
                    have R_f5 := R.f 5
                    go_wp2_with fail
                    clear P_0 P_1 P_2 P_3 P_4 P_5 R_0 R_1 R_2 R_3 R_4 R_5 R_f0 R_f1 R_f2 R_f3 R_f4 R_f5
                    obtain ⟨R_0, R_1, R_2, R_3, R_4, R_5⟩ := R.e6
                    refine bodyPost_ret (v := .agg #[.bool ng, .slice p4 (dig B32 dd).length c4, .int .i64 k2, .bool xb, .bool ov, .bool un]) (by simp [results, Tryd.results57, go_sem, R_0, R_1, R_2, R_3, R_4, R_5]) rfl ?_
                    rw [HPF2.out, if_neg HD0.out]
                    have hO := only6 W17 (w.heap.size + 1 + 1) (.bool ng) (.slice p4 (dig B32 dd).length c4) (.int .i64 k2) (.bool xb) (.bool ov) (.bool un)
                    exact ⟨p4, c4, rfl, (ho10.only hO (fun h => by have := (ho10.blk_lt h).1; omega)).mono (by omega), hs17.trans (hO.below (by omega))⟩
      · have hC : cmpN (qP num den (e - wd * k)) (2 ^ N1) ≤ -1 := by
          unfold FullP at hfull
          rw [← HN1.out] at hfull
          rw [cmpN_lt (by omega)]; omega
        have hk1 : K ≤ k - 1 := by
          rcases Int.lt_or_le (k - 1) K with h | h
          · obtain rfl : k = K := by omega
            exact absurd HK.out.yes hfull
          · exact h
        clear hfull
        have hmk2 : -5003000 ≤ (wd : Int) * (k - 1) ∧ (wd : Int) * (k - 1) ≤ 5003000 := by rw [Int.mul_sub]; omega
        go_wp2_with fail
        ((with_reducible refine (cmp_any p2 pw _ _ c2 cw _ _ _ ho4.rd how.rd rfl rfl (by omega) (by omega)).mono ?_))
        rintro e8 w8 ⟨rfl, hb8⟩
        replace Q := Q.past hb8
        replace G := G.past hb8
        replace R := R.past hb8
        replace hp := hp.past hb8
        replace hq := hq.past hb8
        replace how := how.past hb8
        have hs8 := hs7.trans (hb8.mono hs7.size)
        obtain ⟨Q_0, Q_1, Q_2, Q_3⟩ := Q.e4
        go_wp2_with fail
        clear Q_0 Q_1 Q_2 Q_3
        ((with_reducible refine (scaled_any p q _ _ c d num den (e - (wd : Int) * (k - 1)) _ hp hq rfl rfl (by omega) (by omega) hd (by omega)).mono ?_))
        rintro e9 w9 ⟨p3, c3, q3, d3, r3, f3, rfl, ho7, ho8, hr9, -, hb9⟩
        replace Q := Q.past hb9
        replace G := G.past hb9
        replace R := R.past hb9
        replace hp := hp.past hb9
        replace hq := hq.past hb9
        replace how := how.past hb9
        have hs9 := hs8.trans (hb9.mono hs8.size)
        go_wp2_with fail
        have hsw8 : W1.heap.size ≤ w8.heap.size := by have := hb6.size; have := hb7.size; have := hb8.size; omega
        go_roundg (gk - 1)
        case measure => omega
        case rel => exact ⟨k - 1, p3, q3, r3, c3, d3, f3, by go_num, by omega, by omega, hk1, rfl, rfl, rfl, ho7.mono hsw8, ho8.mono hsw8, hr9, (hb7.trans (hb8.mono hb7.size)).trans (hb9.mono (Nat.le_trans hb7.size hb8.size))⟩

end Go.Proofs.YtcipdimogodndaaDoor

namespace Go.Proofs.YtcipdimogodndaaDoor
open Go.RowKit Go.Slip

structure Rin where
  g : Bool
  p : Option Addr
  c : Nat
  xs : List Nat
  q : Option Addr
  d : Nat
  ys : List Nat
  e : Int

structure InR (w : World) (a : Rin) : Prop where
  r1 : Rd w .u32 a.p a.xs
  l1 : a.xs.length ≤ 9223372036854775807
  b1 : ∀ x ∈ a.xs, x < B32
  r2 : Rd w .u32 a.q a.ys
  l2 : a.ys.length ≤ 9223372036854775807
  b2 : ∀ x ∈ a.ys, x < B32

theorem InR.past {w w' : World} {a : Rin} (h : InR w a) (hb : Below w.heap.size w w') : InR w' a := ⟨h.r1.past hb, h.l1, h.b1, h.r2.past hb, h.l2, h.b2⟩

end Go.Proofs.YtcipdimogodndaaDoor

namespace Go.Proofs.YtcipdimogodndaaDoor
open Go.RowKit Go.Slip

theorem _root_.Go.Slip.Bx.b3 {w : World} {b : Nat} {v0 v1 v2 : Value} (h : Bx w b #[v0, v1, v2]) : Box3 w b v0 v1 v2 :=
  ⟨h.e3.1, h.e3.2.1, h.e3.2.2, h.f 0, h.f 1, h.f 2, h.lt⟩

structure Pin where
  g : Bool
  p : Option Addr
  c : Nat
  xs : List Nat
  k : Int
  x : Bool
  o : Bool
  u : Bool

structure InP (w : World) (a : Pin) : Prop where
  rd : Rd w .u32 a.p a.xs
  cap : a.xs.length ≤ a.c
  len : a.xs.length ≤ 9223372036854775807
  lt : ∀ x ∈ a.xs, x < B32

theorem InP.past {w w' : World} {a : Pin} (h : InP w a) (hb : Below w.heap.size w w') : InP w' a := ⟨h.rd.past hb, h.cap, h.len, h.lt⟩

end Go.Proofs.YtcipdimogodndaaDoor

namespace Go.Proofs.YtcipdimogodndaaDoor
open Go.RowKit Go.Slip

set_option maxHeartbeats 2000000 in
set_option maxRecDepth 100000 in
theorem gratio_any (g : Bool) (p : Option Addr) (n c : Nat) (e : Int) (w : World) :
    Calls Tryd.prog 116 #[.agg #[.bool g, .slice p n c, .int .i64 e]] w fun en w' => ∃ q d, en = .returned (.agg #[.bool g, .slice p n c, .slice q (dig B32 1).length d, .int .i64 e]) ∧ Own w' w.heap.size .u32 91 q d (dig B32 1) ∧ Below w.heap.size w w' := by
  go_enter Tryd.func116, Tryd.ntmps116
  go_wp2_with fail
  refine wp_lay2 (fun W1 hb1 hz1 A R => ?_)
  have hs1 := hb1
  have hzd : W1.drew.heap.size = W1.heap.size := rfl
  have HZD := Lib.hid hzd
  clear hzd
  go_region_held3 (fun w' => w'.cell? ⟨w.heap.size, 0, none⟩ = some (.bool g) ∧ w'.cell? ⟨w.heap.size, 1, none⟩ = some (.slice p n c) ∧ w'.cell? ⟨w.heap.size, 2, none⟩ = some (.int .i64 e))
    (first
      | with_reducible exact A.e3
      | with_reducible exact A.drew.e3
      | with_reducible exact (A.drew.past hbx).e3
      | with_reducible exact ((A.drew.past hbx).only (only4 _ _ _ _ _ _) (by omega)).e3)
    (first
      | (go_at_call 96; ((with_reducible refine (gof_one _).mono ?_)); rintro ex wx ⟨px, cx, rfl, hox, hbx⟩; (have RR := R.drew.past hbx); obtain ⟨R_0, R_1, R_2, R_3⟩ := RR.e4; (have R_f0 := RR.f 0); (have R_f1 := RR.f 1); (have R_f2 := RR.f 2); (have R_f3 := RR.f 3)))
  all_goals (go_wp2_with fail)
  refine bodyPost_ret (v := .agg #[.bool g, .slice p n c, .slice px (dig B32 1).length cx, .int .i64 e]) (by simp [results, Tryd.results116, go_sem, R_0, R_1, R_2, R_3]) rfl ?_
  have hzd := HZD.out
  have hO := only4 wx (w.heap.size + 1) (.bool g) (.slice p n c) (.slice px (dig B32 1).length cx) (.int .i64 e)
  have hz := hs1.size
  exact ⟨px, cx, rfl, (hox.only hO (fun h => by have := (hox.blk_lt h).1; omega)).mono (by omega), (hs1.drew.trans (hbx.mono hz)).trans (hO.below (by omega))⟩

set_option maxHeartbeats 8000000 in
set_option maxRecDepth 100000 in
theorem gkeeps_any (s : Bool) (p : Option Addr) (c : Nat) (e : Int) (m : Nat) (g : Gd) (w : World) (hp : Rd w .u32 p (dig B32 m)) (hl : (dig B32 m).length ≤ 100000) (he : -1000000 ≤ e ∧ e ≤ 1000000) (G : GoodG g) :
    Calls Tryd.prog 70 #[.agg #[.bool s, .slice p (dig B32 m).length c, .int .i64 e], .agg #[.int .i64 g.rad, .int .i64 g.digs, .int .i64 g.lo, .int .i64 g.hi, .bool g.grad]] w fun en w' => en = .returned (.bool (keepsD ⟨s, m, e⟩ g)) ∧ Below w.heap.size w w' := by
  by_cases h0 : m = 0
  · have hk : keepsD ⟨s, m, e⟩ g = true := by unfold keepsD; rw [if_pos h0]
    have HS := Lib.hid (show dSign ⟨s, m, e⟩ = 0 by unfold dSign; rw [if_pos h0])
    rw [hk]
    clear hk h0
    go_enter Tryd.func70, Tryd.ntmps70
    go_wp2_with fail
    refine calls_lay2 (fun W1 hb1 hz1 A B => ?_)
    have hs1 := hb1
    ((with_reducible refine (signD_any s p _ c e m _ rfl).mono ?_))
    rintro e2 w2 ⟨rfl, hb2⟩
    rw [HS.out]
    go_wp2
    go_ret
    exact ⟨rfl, hs1.trans (hb2.mono hs1.size)⟩
  · have hsg := dSign_pos (g := s) (e := e) (show 0 < m by omega)
    have wp := wid_pos g
    have hd1 := G.d1
    have hK := isK_one (show 0 < m by omega) e (w := wid g) (D := g.digs.toNat) wp.1 (by omega)
    have hl1 : (dig B32 1).length ≤ 1 := by rw [dig_len_le B32_two]; unfold B32; omega
    have HF := fun W q d (h1 : Rd W .u32 p (dig B32 m)) (h2 : Rd W .u32 q (dig B32 1)) => Lib.hid (fit_any s p q c d m 1 e g 3 _ W h1 h2 hl (by omega) (by omega) (by omega) he G (by omega) (by omega) hK)
    have hkk : keepsD ⟨s, m, e⟩ g = ((fitK s m 1 e g 3 ((e + blen m - 1) / wid g - g.digs.toNat + 1)).exact && !(fitK s m 1 e g 3 ((e + blen m - 1) / wid g - g.digs.toNat + 1)).over && (!(fitK s m 1 e g 3 ((e + blen m - 1) / wid g - g.digs.toNat + 1)).under || g.grad)) := by
      unfold keepsD
      rw [if_neg h0]
      rfl
    rw [hkk]
    generalize fitK s m 1 e g 3 ((e + blen m - 1) / wid g - g.digs.toNat + 1) = pf at *
    clear hkk h0 hK hd1 wp
    generalize hds : dSign ⟨s, m, e⟩ = sg0 at *
    have HSG := Lib.hid hds
    clear hds
    go_enter Tryd.func70, Tryd.ntmps70
    go_wp2_with fail
    refine calls_lay2 (fun W1 hb1 hz1 A B => ?_)
    replace hp := hp.past hb1
    have hs1 := hb1
    ((with_reducible refine (signD_any s p _ c e m _ rfl).mono ?_))
    rintro e2 w2 ⟨rfl, hb2⟩
    rw [HSG.out]
    replace A := A.past hb2
    replace B := B.past hb2
    replace hp := hp.past hb2
    have hs2 := hs1.trans (hb2.mono hs1.size)
    go_wp2_with fail
    have hAl := A.lt
    have hBl := B.lt
    have hzd : w2.drew.heap.size = w2.heap.size := rfl
    have HZD := Lib.hid hzd
    clear hzd
    go_cut [5] (fun s5 wx => ∃ (kx : Nat) (px : Option Addr) (cx : Nat), s5 = .pointer (some ⟨kx, 0, none⟩) ∧ Bx wx kx #[.bool pf.neg, .slice px (dig B32 pf.d).length cx, .int .i64 pf.pow, .bool pf.exact, .bool pf.over, .bool pf.under] ∧ w2.heap.size ≤ kx ∧ Below w2.heap.size w2 wx)
    case first =>
      go_region_held3 (fun w' => (w'.cell? ⟨w.heap.size, 0, none⟩ = some (.bool s) ∧ w'.cell? ⟨w.heap.size, 1, none⟩ = some (.slice p (dig B32 m).length c) ∧ w'.cell? ⟨w.heap.size, 2, none⟩ = some (.int .i64 e)) ∧
          (w'.cell? ⟨w.heap.size + 1, 0, none⟩ = some (.int .i64 g.rad) ∧ w'.cell? ⟨w.heap.size + 1, 1, none⟩ = some (.int .i64 g.digs) ∧ w'.cell? ⟨w.heap.size + 1, 2, none⟩ = some (.int .i64 g.lo) ∧ w'.cell? ⟨w.heap.size + 1, 3, none⟩ = some (.int .i64 g.hi) ∧ w'.cell? ⟨w.heap.size + 1, 4, none⟩ = some (.bool g.grad)))
        (first
        | with_reducible exact ⟨A.e3, B.e5⟩
        | with_reducible exact ⟨(A.drew).e3, (B.drew).e5⟩
        | with_reducible exact ⟨((A.laid _).drew).e3, ((B.laid _).drew).e5⟩
        | with_reducible exact ⟨(((A.laid _).drew).past hbx).e3, (((B.laid _).drew).past hbx).e5⟩
        | with_reducible exact ⟨((A.drew).past hbx).e3, ((B.drew).past hbx).e5⟩
        | with_reducible exact ⟨(((A.drew).past hbx).laid _).e3, (((B.drew).past hbx).laid _).e5⟩
        | with_reducible exact ⟨((((A.laid _).drew).past hbx).past hby).e3, ((((B.laid _).drew).past hbx).past hby).e5⟩
        | with_reducible exact ⟨((((A.drew).past hbx).laid _).past hby).e3, ((((B.drew).past hbx).laid _).past hby).e5⟩
        | with_reducible exact ⟨(((A.drew).past hbx).past hby).e3, (((B.drew).past hbx).past hby).e5⟩
        | with_reducible exact ⟨((((A.drew).past hbx).past hby).laid _).e3, ((((B.drew).past hbx).past hby).laid _).e5⟩
        | with_reducible exact ⟨(((((A.laid _).drew).past hbx).past hby).only (only6 _ _ _ _ _ _ _ _) (by omega)).e3, (((((B.laid _).drew).past hbx).past hby).only (only6 _ _ _ _ _ _ _ _) (by omega)).e5⟩
        | with_reducible exact ⟨(((((A.drew).past hbx).laid _).past hby).only (only6 _ _ _ _ _ _ _ _) (by omega)).e3, (((((B.drew).past hbx).laid _).past hby).only (only6 _ _ _ _ _ _ _ _) (by omega)).e5⟩)
        (first
          | (go_at_call 116; ((with_reducible refine (gratio_any s p _ c e _).mono ?_)); rintro ex wx ⟨qx, dx, rfl, hox, hbx⟩; (have hzx : w2.heap.size ≤ wx.heap.size := by have := hbx.size; simp at this; omega))
          | (go_at_call 57; (first
              | with_reducible refine (HF _ qx dx (hp.drew.past hbx) hox.rd).out.mono ?_
              | with_reducible refine (HF _ qx dx ((hp.laid _).drew.past hbx) hox.rd).out.mono ?_
              | with_reducible refine (HF _ qx dx ((hp.drew.past hbx).laid _) (hox.rd.laid _)).out.mono ?_); rintro ey wy ⟨py, cy, rfl, hoy, hby⟩; (first
              | (have XX := (bx_new w2 #[.bool false, .slice none 0 0, .int .i64 0, .bool false, .bool false, .bool false] 50).drew.past hbx |>.past hby; obtain ⟨X_0, X_1, X_2, X_3, X_4, X_5⟩ := XX.e6; have X_f0 := XX.f 0; have X_f1 := XX.f 1; have X_f2 := XX.f 2; have X_f3 := XX.f 3; have X_f4 := XX.f 4; have X_f5 := XX.f 5)
              | (have XX := (bx_new wx #[.bool false, .slice none 0 0, .int .i64 0, .bool false, .bool false, .bool false] 50).past hby; obtain ⟨X_0, X_1, X_2, X_3, X_4, X_5⟩ := XX.e6; have X_f0 := XX.f 0; have X_f1 := XX.f 1; have X_f2 := XX.f 2; have X_f3 := XX.f 3; have X_f4 := XX.f 4; have X_f5 := XX.f 5)
              | skip)))
      all_goals (go_wp2_with fail)
      all_goals go_meet
      · have hzy := hby.size
        exact ⟨wy.heap.size, py, cy, rfl, bx_new wy _ _, by omega, (((Below.refl w2.heap.size w2).drew.trans hbx).trans (hby.mono hzx)).trans ((below_lay1 wy _).mono (by omega))⟩
      · have hzy := hby.size
        rw [World.size_alloc] at hzy
        have hO := only6 wy wx.heap.size (.bool pf.neg) (.slice py (dig B32 pf.d).length cy) (.int .i64 pf.pow) (.bool pf.exact) (.bool pf.over) (.bool pf.under)
        exact ⟨wx.heap.size, py, cy, rfl, XX.put6 _ _ _ _ _ _, hzx, ((((Below.refl w2.heap.size w2).drew.trans hbx).trans ((below_lay1 wx _).mono hzx)).trans (hby.mono (by rw [World.size_alloc]; omega))).trans (hO.below hzx)⟩
      · have hzy := hby.size
        have hO := only6 wy w2.heap.size (.bool pf.neg) (.slice py (dig B32 pf.d).length cy) (.int .i64 pf.pow) (.bool pf.exact) (.bool pf.over) (.bool pf.under)
        exact ⟨w2.heap.size, py, cy, rfl, XX.put6 _ _ _ _ _ _, Nat.le_refl _, ((((below_lay1 w2 _).drew).trans (hbx.mono (by simp))).trans (hby.mono hzx)).trans (hO.below (Nat.le_refl _))⟩
    case rest =>
      obtain ⟨kx, px, cx, rfl, X, hkx, hbc⟩ := hcut
      have hs4 := hs2.trans (hbc.mono hs2.size)
      replace B := B.past hbc
      clear hbc
      obtain ⟨png, pd, ppw, pex, pov, pun⟩ := pf
      obtain ⟨X_0, X_1, X_2, X_3, X_4, X_5⟩ := X.e6
      obtain ⟨B_0, B_1, B_2, B_3, B_4⟩ := B.e5
      simp only at X_3 X_4 X_5 ⊢
      clear HF
      generalize hgr : g.grad = gr at *
      have HGR := Lib.hid hgr
      clear hgr
      cases pex <;> cases pov <;> cases pun <;> cases gr <;> (go_wp2; go_ret; exact ⟨by first | rfl | (rw [HGR.out]; rfl), hs4⟩)

end Go.Proofs.YtcipdimogodndaaDoor

namespace Go.Slip

theorem fit_step {s : Bool} {m : Nat} {e : Int} {g : Gd} (G : GoodG g) (hin : inGridD ⟨s, m, e⟩ g = true) (h0 : m ≠ 0) :
    (fitK s m 1 e g 3 ((e + blen m - 1) / wid g - g.digs.toNat + 1)).d = qP m 1 (e - wid g * stepK ⟨s, m, e⟩ g) ∧
    ((fitK s m 1 e g 3 ((e + blen m - 1) / wid g - g.digs.toNat + 1)).d ≠ 0 → (fitK s m 1 e g 3 ((e + blen m - 1) / wid g - g.digs.toNat + 1)).pow = stepK ⟨s, m, e⟩ g) ∧
    (fitK s m 1 e g 3 ((e + blen m - 1) / wid g - g.digs.toNat + 1)).d ≠ 0 := by
  have hb := step_bd G hin h0
  simp only at hb
  have hp : powK g ((e + blen m - 1) / wid g - g.digs.toNat + 1) = stepK ⟨s, m, e⟩ g := by
    have eK : stepK ⟨s, m, e⟩ g = max g.lo ((e + blen m - 1) / wid g - g.digs.toNat + 1) := rfl
    rw [eK]
    unfold powK
    by_cases h1 : (e + blen m - 1) / wid g - g.digs.toNat + 1 < g.lo
    · by_cases h2 : g.grad = true
      · rw [if_pos ⟨h1, h2⟩]; omega
      · exfalso
        unfold inGridD at hin
        rw [if_neg h0] at hin
        have eU : upK ⟨s, m, e⟩ (wid g) g.digs.toNat = (e + blen m - 1) / wid g - g.digs.toNat + 1 := rfl
        rw [eU] at hin
        rw [if_pos h1, if_neg h2] at hin
        simp at hin
    · rw [if_neg (fun h => h1 h.1)]; omega
  unfold fitK
  simp only
  rw [hp, digP_zero, powP_zero]
  have hq : qP m 1 (e - wid g * stepK ⟨s, m, e⟩ g) ≠ 0 := by
    unfold qP numP denP
    rw [show (-(e - wid g * stepK ⟨s, m, e⟩ g)).toNat = 0 by omega, Nat.pow_zero, Nat.mul_one, Nat.div_one]
    have := Nat.mul_pos (show 0 < m by omega) (Nat.pow_pos (n := (e - wid g * stepK ⟨s, m, e⟩ g).toNat) (show 0 < 2 by omega))
    omega
  exact ⟨rfl, fun h => by rw [if_neg h], hq⟩

end Go.Slip
namespace Go.Proofs.YtcipdimogodndaaDoor
open Go.RowKit Go.Slip

end Go.Proofs.YtcipdimogodndaaDoor

namespace Go.Proofs.YtcipdimogodndaaDoor
open Go.RowKit Go.Slip

set_option maxHeartbeats 1000000 in
theorem refWidth_any (g : Gd) (w : World) :
    Calls Tryd.prog 64 #[.agg #[.int .i64 g.rad, .int .i64 g.digs, .int .i64 g.lo, .int .i64 g.hi, .bool g.grad]] w fun e w' => e = .returned (.int .i64 (wid g : Nat)) ∧ Below w.heap.size w w' := by
  obtain ⟨rad, digs, lo, hi, grad⟩ := g
  simp only
  unfold wid
  simp only
  have hb : Below w.heap.size w (w.alloc (.cells #[.int .i64 rad, .int .i64 digs, .int .i64 lo, .int .i64 hi, .bool grad] 29)) := below_lay1 _ _
  by_cases h : rad = 16
  · subst h
    go_enter Tryd.func64, Tryd.ntmps64
    go_wp2
    go_ret
    exact ⟨by simp, hb⟩
  · have h1 : (rad == 16) = false := beq_eq_false_iff_ne.2 h
    rw [if_neg h]
    clear h
    go_enter Tryd.func64, Tryd.ntmps64
    go_wp2
    go_ret
    exact ⟨rfl, hb⟩

end Go.Proofs.YtcipdimogodndaaDoor

namespace Go.Proofs.YtcipdimogodndaaDoor
open Go.RowKit Go.Slip

set_option maxHeartbeats 1000000 in
set_option maxRecDepth 100000 in
theorem refPlus_any (p q : Option Addr) (n m c d : Nat) (a b : Nat) (w : World) (hp : Rd w .i64 p (dig B16 a)) (hq : Rd w .i64 q (dig B16 b)) (hn : n = (dig B16 a).length) (hm : m = (dig B16 b).length)
    (hl : (dig B16 a).length + (dig B16 b).length ≤ 1000000000) :
    Calls Tryd.prog 65 #[.slice p n c, .slice q m d] w (GivesR w .i64 (dig B16 (a + b))) := by
  subst hn hm
  have HXL := Lib.hid (dig_lt B16_two a)
  have HYL := Lib.hid (dig_lt B16_two b)
  obtain ⟨xs, hxs⟩ : ∃ xs, xs = dig B16 a := ⟨_, rfl⟩
  obtain ⟨ys, hys⟩ : ∃ ys, ys = dig B16 b := ⟨_, rfl⟩
  rw [← hxs] at hp hl HXL ⊢
  rw [← hys] at hq hl HYL ⊢
  have HA := Lib.hid hxs
  have HB := Lib.hid hys
  clear hxs hys
  have hsx := hp.solid
  have hsy := hq.solid
  go_enter Tryd.func65, Tryd.ntmps65
  go_wp2
  go_loopg [5, 6, 7] (xs.length + ys.length + 2) (fun g ov cv iv wr => ∃ (i cr : Nat) (t : Option Addr) (e : Nat) (O : List Nat), iv = .int .i64 i ∧ cv = .int .i64 cr ∧ ov = .slice t O.length e ∧ g + i = xs.length + ys.length + 2 ∧ cr ≤ 1 ∧ i ≤ xs.length + ys.length + 1 ∧ Hid (O.length = i) ∧
      Own wr w.heap.size .i64 3 t e O ∧ Below w.heap.size w wr ∧ Hid (PlusRel O xs ys i cr))
  case atStart => exact ⟨0, 0, none, 0, [], rfl, rfl, rfl, rfl, by omega, by omega, rfl, Own.nil _ _ _ _, Below.refl _ _, PlusRel.start xs ys⟩
  case round =>
    obtain ⟨i, cr, t, e, O, rfl, rfl, rfl, hg, hcr, hi, hO, hoq, hb, HR⟩ := hrel
    have hpL := hp.past hb
    have hqL := hq.past hb
    have hxd := getD_lt (B := 65536) (by omega) xs HXL.out i
    have hyd := getD_lt (B := 65536) (by omega) ys HYL.out i
    have hi2 : 0 < i → cr = 1 → i ≤ xs.length ∨ i ≤ ys.length := fun h1 h2 => by have := HR.out.2.2.2.2; omega
    by_cases h1 : i < xs.length
    · have hc1 := hpL.cells i h1
      have HS := HR.out.step hxd hyd (.inl h1)
      by_cases h2 : i < ys.length
      · have hc2 := hqL.cells i h2
        have HS := Lib.hid HS
        clear hi2
        go_wp2_with (first
          | (refine wpl_build1 rfl _ _ rfl tyN _ ?_ rfl ?_; omega; intro p2 w2 ho2 hb2 hz2 hp2)
          | (at_builtin; refine wpl_append rfl _ _ _ rfl tyN _ _ _ _ _ (hoq.past hb2) rfl _ _ _ _ ho2.rd rfl rfl rfl ?_ ?_ ?_; (have := hO.out; simp; omega); (have := hb2.size; have := hb.size; omega); intro p3 c3 w3 ho3 hg3 hb3 hn3))
        have hb4 := hb.trans ((hb2.mono hb.size).trans hb3)
        have e4 : (((cr : Int) + dg xs i + dg ys i : Int) % 65536).toNat = (cr + dg xs i + dg ys i) % B16 := by unfold B16; omega
        rw [e4] at ho3
        go_roundg (xs.length + ys.length + 1 - i)
        case measure => omega
        case rel => exact ⟨i + 1, (cr + dg xs i + dg ys i) / B16, p3, c3, _, by go_num, (by unfold B16; go_num), by simp, by omega, HS.out.2.2.1, by omega, (by show (O ++ _).length = i + 1; have := hO.out; simp; omega), ho3, hb4, HS⟩
      · have ez : dg ys i = 0 := dg_of_ge (by omega)
        rw [ez] at HS
        have HS := Lib.hid HS
        clear ez hyd hi2
        go_wp2_with (first
          | (refine wpl_build1 rfl _ _ rfl tyN _ ?_ rfl ?_; omega; intro p2 w2 ho2 hb2 hz2 hp2)
          | (at_builtin; refine wpl_append rfl _ _ _ rfl tyN _ _ _ _ _ (hoq.past hb2) rfl _ _ _ _ ho2.rd rfl rfl rfl ?_ ?_ ?_; (have := hO.out; simp; omega); (have := hb2.size; have := hb.size; omega); intro p3 c3 w3 ho3 hg3 hb3 hn3))
        have hb4 := hb.trans ((hb2.mono hb.size).trans hb3)
        have e4 : (((cr : Int) + dg xs i : Int) % 65536).toNat = (cr + dg xs i + 0) % B16 := by unfold B16; omega
        rw [e4] at ho3
        go_roundg (xs.length + ys.length + 1 - i)
        case measure => omega
        case rel => exact ⟨i + 1, (cr + dg xs i + 0) / B16, p3, c3, _, by go_num, (by unfold B16; go_num), by simp, by omega, HS.out.2.2.1, by omega, (by show (O ++ _).length = i + 1; have := hO.out; simp; omega), ho3, hb4, HS⟩
    · have ex : dg xs i = 0 := dg_of_ge (by omega)
      by_cases h2 : i < ys.length
      · have hc2 := hqL.cells i h2
        have HS := HR.out.step hxd hyd (.inr (.inl h2))
        rw [ex] at HS
        have HS := Lib.hid HS
        clear ex hxd hi2
        go_wp2_with (first
          | (refine wpl_build1 rfl _ _ rfl tyN _ ?_ rfl ?_; omega; intro p2 w2 ho2 hb2 hz2 hp2)
          | (at_builtin; refine wpl_append rfl _ _ _ rfl tyN _ _ _ _ _ (hoq.past hb2) rfl _ _ _ _ ho2.rd rfl rfl rfl ?_ ?_ ?_; (have := hO.out; simp; omega); (have := hb2.size; have := hb.size; omega); intro p3 c3 w3 ho3 hg3 hb3 hn3))
        have hb4 := hb.trans ((hb2.mono hb.size).trans hb3)
        have e4 : (((cr : Int) + dg ys i : Int) % 65536).toNat = (cr + 0 + dg ys i) % B16 := by unfold B16; omega
        rw [e4] at ho3
        go_roundg (xs.length + ys.length + 1 - i)
        case measure => omega
        case rel => exact ⟨i + 1, (cr + 0 + dg ys i) / B16, p3, c3, _, by go_num, (by unfold B16; go_num), by simp, by omega, HS.out.2.2.1, by omega, (by show (O ++ _).length = i + 1; have := hO.out; simp; omega), ho3, hb4, HS⟩
      · have ey : dg ys i = 0 := dg_of_ge (by omega)
        by_cases h3 : 0 < cr
        · have HS := HR.out.step hxd hyd (.inr (.inr h3))
          rw [ex, ey] at HS
          have HS := Lib.hid HS
          have hi3 : i ≤ xs.length + ys.length := by
            by_cases h0 : 0 < i
            · have := hi2 h0 (by omega); omega
            · omega
          clear ex ey hxd hyd hi2
          go_wp2_with (first
            | (refine wpl_build1 rfl _ _ rfl tyN _ ?_ rfl ?_; omega; intro p2 w2 ho2 hb2 hz2 hp2)
            | (at_builtin; refine wpl_append rfl _ _ _ rfl tyN _ _ _ _ _ (hoq.past hb2) rfl _ _ _ _ ho2.rd rfl rfl rfl ?_ ?_ ?_; (have := hO.out; simp; omega); (have := hb2.size; have := hb.size; omega); intro p3 c3 w3 ho3 hg3 hb3 hn3))
          have hb4 := hb.trans ((hb2.mono hb.size).trans hb3)
          have e4 : (((cr : Int) : Int) % 65536).toNat = (cr + 0 + 0) % B16 := by unfold B16; omega
          rw [e4] at ho3
          go_roundg (xs.length + ys.length + 1 - i)
          case measure => omega
          case rel => exact ⟨i + 1, (cr + 0 + 0) / B16, p3, c3, _, by go_num, (by unfold B16; go_num), by simp, by omega, HS.out.2.2.1, by omega, (by show (O ++ _).length = i + 1; have := hO.out; simp; omega), ho3, hb4, HS⟩
        · obtain rfl : cr = 0 := by omega
          have HD := Lib.hid (HR.out.done (by omega) (by omega) HA.out HB.out)
          clear ex ey hxd hyd hi2
          go_wp2
          go_ret
          exact givesR_of HD.out rfl hoq hb

end Go.Proofs.YtcipdimogodndaaDoor

namespace Go.Proofs.YtcipdimogodndaaDoor
open Go.RowKit Go.Slip

set_option maxHeartbeats 1000000 in
set_option maxRecDepth 100000 in
theorem refCmp_any (p q : Option Addr) (n m c d : Nat) (a b : Nat) (w : World) (hp : Rd w .i64 p (dig B16 a)) (hq : Rd w .i64 q (dig B16 b)) (hn : n = (dig B16 a).length) (hm : m = (dig B16 b).length)
    (hl : (dig B16 a).length ≤ 1000000000) (hl2 : (dig B16 b).length ≤ 1000000000) :
    Calls Tryd.prog 66 #[.slice p n c, .slice q m d] w fun e w' => e = .returned (.int .i64 (cmpN a b)) ∧ Below w.heap.size w w' := by
  subst hn hm
  by_cases hlt : (dig B16 a).length < (dig B16 b).length
  · have H := Lib.hid (cmpN_lt (dig_len_lt B16_two hlt))
    go_enter Tryd.func66, Tryd.ntmps66
    go_wp2
    go_ret
    exact ⟨ret_cmp H.out, Below.refl _ _⟩
  · by_cases hgt : (dig B16 b).length < (dig B16 a).length
    · have H := Lib.hid (cmpN_gt (dig_len_lt B16_two hgt))
      go_enter Tryd.func66, Tryd.ntmps66
      go_wp2
      go_ret
      exact ⟨ret_cmp H.out, Below.refl _ _⟩
    · have hle : (dig B16 b).length = (dig B16 a).length := by omega
      have HXL := Lib.hid (dig_lt B16_two a)
      have HYL := Lib.hid (dig_lt B16_two b)
      have HA := Lib.hid (val_dig B16_two a)
      have HB := Lib.hid (val_dig B16_two b)
      rw [hle]
      have HL := Lib.hid hle
      have hly := Nat.le_of_eq hle.symm
      clear hlt hgt hle
      generalize dig B16 a = xs at *
      generalize dig B16 b = ys at *
      have hsx := hp.solid
      have hsy := hq.solid
      rw [HL.out] at hsy
      go_enter Tryd.func66, Tryd.ntmps66
      go_wp2
      go_loopw [5] (fun iv wr => ∃ (k : Nat), iv = .int .i64 ((k : Int) - 1) ∧ k ≤ xs.length ∧ Below w.heap.size w wr ∧ Hid (xs.drop k = ys.drop k)) (fun iv _ => (intOf iv + 1).toNat)
      case atStart => exact ⟨xs.length, rfl, Nat.le_refl _, Below.refl _ _, (show xs.drop _ = ys.drop _ by rw [List.drop_length, List.drop_of_length_le (by have := HL.out; omega)])⟩
      case round =>
        obtain ⟨k, rfl, hk, hb, HD⟩ := hrel
        by_cases h0 : 0 < k
        · obtain ⟨k, rfl⟩ : ∃ j, k = j + 1 := ⟨k - 1, by omega⟩
          have ej : ((k + 1 : Nat) : Int) - 1 = k := by omega
          rw [ej]
          have hxd := getD_lt (B := 65536) (by omega) xs HXL.out k
          have hyd := getD_lt (B := 65536) (by omega) ys HYL.out k
          have hc1 := (hp.past hb).cells k (by omega)
          have hc2 := (hq.past hb).cells k (by omega)
          have i1 : (k : Int) < (xs.length : Int) := by omega
          have i0 : (0 : Int) ≤ (k : Int) := by omega
          clear ej
          by_cases h1 : dg xs k < dg ys k
          · have H := Lib.hid (cmpN_lt (by have := val_cmp xs ys HXL.out k (by omega) HL.out.symm HD.out h1; rwa [HA.out, HB.out] at this))
            go_wp2_with fail
            go_quiet (fail)
            go_wp2
            go_ret
            exact ⟨ret_cmp H.out, hb.trans (by first | exact below_drewN (Below.refl _ _) _ | exact below_drewN (below_drewN (Below.refl _ _) _) _)⟩
          · by_cases h2 : dg ys k < dg xs k
            · have H := Lib.hid (cmpN_gt (by have := val_cmp ys xs HYL.out k (by have := HL.out; omega) HL.out HD.out.symm h2; rwa [HA.out, HB.out] at this))
              go_wp2_with fail
              go_quiet (fail)
              go_wp2_with fail
              go_quiet (fail)
              go_wp2
              go_ret
              exact ⟨ret_cmp H.out, hb.trans (by first | exact below_drewN (Below.refl _ _) _ | exact below_drewN (below_drewN (Below.refl _ _) _) _)⟩
            · have h3 : dg xs k = dg ys k := by omega
              have HE := Lib.hid (drop_eq_of (by omega) HL.out.symm HD.out h3)
              rw [← h3] at hc2
              clear h3 h1 h2
              go_wp2_with fail
              go_quiet (fail)
              go_wp2_with fail
              go_quiet (fail)
              go_wp2
              go_roundw
              case rel => exact ⟨k, rfl, by omega, hb.trans (by first | exact below_drewN (Below.refl _ _) _ | exact below_drewN (below_drewN (Below.refl _ _) _) _), HE⟩
              case measure => first | (simp [intOf]; done) | (simp [intOf]; omega)
        · obtain rfl : k = 0 := by omega
          have H : cmpN a b = 0 := by
            have := HD.out
            simp only [List.drop_zero] at this
            rw [← HA.out, ← HB.out, this]; exact cmpN_eq _
          have H := Lib.hid H
          go_wp2
          go_ret
          exact ⟨ret_cmp H.out, hb⟩

set_option maxHeartbeats 400000 in
theorem refLen_any (p : Option Addr) (n c : Nat) (a : Nat) (w : World) (hp : Rd w .i64 p (dig B16 a)) (hn : n = (dig B16 a).length) (hl : (dig B16 a).length ≤ 1000000000) :
    Calls Tryd.prog 77 #[.slice p n c] w fun e w' => e = .returned (.int .i64 (blen a : Nat)) ∧ w = w' := by
  subst hn
  by_cases h0 : 0 < a
  · obtain ⟨hb, ht⟩ := blen_dig (B := B16) (s := 16) (by decide) B16_two a h0
    have hl0 : 0 < (dig B16 a).length := List.length_pos_iff.2 ((dig_spec B16_two a).2.2.2 h0)
    have HB := Lib.hid hb
    have hd := getD_lt (B := 65536) (by omega) _ (dig_lt B16_two a) ((dig B16 a).length - 1)
    clear hb
    generalize dig B16 a = xs at *
    have hs := hp.solid
    have hc := hp.cells (xs.length - 1) (by omega)
    have hbd : blen (dg xs (xs.length - 1)) ≤ 16 := (blen_le _ 16).2 (by omega)
    generalize dg xs (xs.length - 1) = d at *
    go_enter Tryd.func77, Tryd.ntmps77
    go_wp2
    go_loop [3, 4] (fun nv dv => ∃ (m t : Nat), nv = .int .i64 m ∧ dv = .int .i64 t ∧ t ≤ d ∧ m + blen t = 16 * (xs.length - 1) + blen d) (fun _ dv => (intOf dv).toNat)
    case atStart => exact ⟨16 * (xs.length - 1), d, by go_num, rfl, Nat.le_refl _, rfl⟩
    case round =>
      obtain ⟨m, t, rfl, rfl, htd, hm⟩ := hrel
      by_cases h1 : 0 < t
      · have hh := blen_half t h1
        have hh2 : m + 1 + blen (t / 2) = 16 * (xs.length - 1) + blen d := by omega
        clear hh
        go_wp2
        go_round
        case rel => exact ⟨m + 1, t / 2, by go_num, by go_num, by omega, hh2⟩
        case measure => simp [intOf]; omega
      · obtain rfl : t = 0 := by omega
        rw [blen_zero] at hm
        have HM := Lib.hid (show blen a = m by rw [HB.out]; exact hm.symm)
        go_wp2
        go_ret
        rw [HM.out]
        exact ⟨rfl, rfl⟩
  · obtain rfl : a = 0 := by omega
    rw [blen_zero]
    rw [dig_zero] at *
    go_enter Tryd.func77, Tryd.ntmps77
    go_wp2
    go_ret
    exact ⟨rfl, rfl⟩

end Go.Proofs.YtcipdimogodndaaDoor

namespace Go.Slip

theorem tz_low16 {d r : Nat} (h0 : 0 < d) (h : d < 65536) : tz (d + 65536 * r) = tz d := by
  obtain ⟨h1, h2⟩ := tz_spec d h0
  have hle : tz d < 16 := by
    rcases Nat.lt_or_ge (tz d) 16 with h3 | h3
    · exact h3
    · have h4 : 2 ^ 16 ≤ 2 ^ tz d := Nat.pow_le_pow_right (by omega) h3
      have h5 : 0 < d / 2 ^ tz d := by
        rcases Nat.eq_zero_or_pos (d / 2 ^ tz d) with h | h
        · rw [h] at h2; simp at h2
        · exact h
      have h6 := Nat.mul_le_mul_left (2 ^ tz d) h5
      simp only [Nat.succ_eq_add_one, Nat.zero_add, Nat.mul_one] at h6
      omega
  obtain ⟨t, ht⟩ : ∃ t, t = tz d := ⟨_, rfl⟩
  rw [← ht] at h1 h2 hle ⊢
  obtain ⟨s, hs⟩ : ∃ s, 16 = t + (s + 1) := ⟨15 - t, by omega⟩
  have e : d + 65536 * r = (d / 2 ^ t + 2 * (2 ^ s * r)) * 2 ^ t := by
    have e1 : (65536 : Nat) = 2 ^ t * (2 ^ s * 2) := by
      rw [show (65536 : Nat) = 2 ^ 16 by decide, hs, Nat.pow_add, Nat.pow_succ]
    rw [e1, Nat.add_mul]
    conv => lhs; rw [← h1]
    grind
  rw [e]
  exact tz_mul _ _ (by omega)

theorem tz_dig16 {xs : List Nat} {a i : Nat} (ha : val B16 xs = a) (hz : ∀ j, j < i → dg xs j = 0) (hd : 0 < dg xs i) (hl : dg xs i < 65536) : tz a = 16 * i + tz (dg xs i) := by
  have h1 := val_take_drop0 B16 xs i
  have h2 : val B16 (xs.take i) = 0 := by
    have : xs.take i = List.replicate (xs.take i).length 0 := by
      apply list_ext_dg
      · simp
      · intro t ht
        simp only [List.length_take] at ht
        rw [dg_take (by omega), dg_replicate, hz t (by omega)]
    rw [this, val_replicate]
  rw [h2, val_drop0, Nat.zero_add] at h1
  have e : a = (dg xs i + 65536 * val B16 (xs.drop (i + 1))) * 2 ^ (16 * i) := by
    rw [← ha, h1, Nat.pow_mul, show (2 : Nat) ^ 16 = B16 by decide, Nat.mul_comm]
    rfl
  rw [e, tz_shift (by omega), tz_low16 hd hl]
  omega

def BareOut (xs : List Nat) (j n : Nat) : Prop := n = 16 * j ∧ ∀ i, i < j → dg xs i = 0

theorem BareOut.start (xs : List Nat) : BareOut xs 0 0 := ⟨rfl, fun i hi => by omega⟩
theorem BareOut.step {xs : List Nat} {j n : Nat} (h : BareOut xs j n) (hz : dg xs j = 0) : BareOut xs (j + 1) (n + 16) :=
  ⟨by have := h.1; omega, fun i hi => by
    by_cases he : i = j
    · subst he; exact hz
    · exact h.2 i (by omega)⟩
theorem BareOut.lt {xs : List Nat} {j n m : Nat} (h : BareOut xs j n) (hv : val B16 xs = m) (h0 : 0 < m) : j < xs.length := by
  rcases Nat.lt_or_ge j xs.length with h1 | h1
  · exact h1
  · have := val_zero_of (B := B16) (xs := xs) (fun i hi => h.2 i (by omega))
    omega

def BareIn (m d n : Nat) : Prop := ∃ t, n + tz d = t ∧ t = tz m ∧ 0 < d
theorem BareIn.start {xs : List Nat} {j n m : Nat} (h : BareOut xs j n) (hv : val B16 xs = m) (h0 : 0 < dg xs j) (hl : dg xs j < 65536) : BareIn m (dg xs j) n :=
  ⟨_, rfl, by rw [tz_dig16 hv h.2 h0 hl, h.1], h0⟩
theorem BareIn.step {m d n : Nat} (h : BareIn m d n) (he : d % 2 = 0) : BareIn m (d / 2) (n + 1) := by
  obtain ⟨t, h1, h2, h3⟩ := h
  rw [tz_even h3 he] at h1
  exact ⟨t, by omega, h2, by omega⟩
theorem BareIn.done {m d n : Nat} (h : BareIn m d n) (he : d % 2 = 1) : n = tz m := by
  obtain ⟨t, h1, h2, h3⟩ := h
  rw [tz_odd he] at h1
  omega

theorem blen_len16 (a : Nat) : blen a ≤ 16 * (dig B16 a).length := by
  rw [blen_le, Nat.pow_mul]
  exact (dig_len_le B16_two a _).1 (Nat.le_refl _)

end Go.Slip

namespace Go.Proofs.YtcipdimogodndaaDoor
open Go.RowKit Go.Slip

theorem wid_two (g : Gd) : wid g = 1 ∨ wid g = 4 := by unfold wid; split <;> simp

theorem far_div8 {x : Int} {wd : Nat} (h : wd = 1 ∨ wd = 4) (hx : -80000 ≤ x) : (x + 80000).tdiv wd = (x + 80000) / wd ∧ (80000 : Int).tdiv wd = 80000 / wd ∧ (x + 80000) / wd - 80000 / wd = x / wd := by
  refine ⟨Int.tdiv_eq_ediv_of_nonneg (by omega), Int.tdiv_eq_ediv_of_nonneg (by omega), ?_⟩
  rcases h with rfl | rfl <;> omega

set_option maxHeartbeats 8000000 in
set_option maxRecDepth 100000 in
theorem refInGrid_any (s : Bool) (p : Option Addr) (n c : Nat) (e : Int) (m : Nat) (g : Gd) (w : World) (hp : Rd w .i64 p (dig B16 m)) (hn : n = (dig B16 m).length) (hl : (dig B16 m).length ≤ 100000) (he : -1000000 ≤ e ∧ e ≤ 1000000) (G : GoodG g) :
    Calls Tryd.prog 37 #[.agg #[.bool s, .slice p n c, .int .i64 e], .agg #[.int .i64 g.rad, .int .i64 g.digs, .int .i64 g.lo, .int .i64 g.hi, .bool g.grad]] w fun en w' => en = .returned (.bool (inGridD ⟨s, m, e⟩ g)) ∧ Below w.heap.size w w' := by
  subst hn
  have hz := dig_len_zero B16_two m
  by_cases h0 : m = 0
  · have hk : inGridD ⟨s, m, e⟩ g = true := by unfold inGridD; rw [if_pos h0]
    have t0 : (((dig B16 m).length : Int) == 0) = true := by rw [hz.2 h0]; rfl
    rw [hk]
    clear hk h0 hz
    go_enter Tryd.func37, Tryd.ntmps37
    go_wp2
    go_ret
    exact ⟨rfl, below_lay2 _ _ _⟩
  · have t0 : (((dig B16 m).length : Int) == 0) = false := beq_eq_false_iff_ne.2 (by omega)
    have HWD := fun W => Lib.hid (refWidth_any g W)
    have wp := wid_pos g
    have wt := wid_two g
    obtain ⟨_, gd1, gd2, gl1, gl2, gh1, gh2, gle⟩ := G
    obtain ⟨D, hD⟩ : ∃ D : Nat, g.digs = D := ⟨g.digs.toNat, by omega⟩
    have hDt : g.digs.toNat = D := by omega
    have bm := blen_len16 m
    have b0 := (blen_pos m).2 (by omega)
    have hig : inGridD ⟨s, m, e⟩ g = if e < wid g * g.lo ∨ wid g * (g.hi + D) < e + blen m then false else
        if (e + blen m - 1) / wid g - D + 1 < g.lo then (if g.grad then decide (wid g * g.lo ≤ e) else false) else decide (wid g * ((e + blen m - 1) / wid g - D + 1) ≤ e) := by
      unfold inGridD
      rw [if_neg h0, hDt, hD]
      rfl
    rw [hig]
    obtain ⟨rad, digs, lo, hi, grad⟩ := g
    simp only at *
    subst hD
    obtain ⟨wd, hwd⟩ : ∃ wd, wid ⟨rad, D, lo, hi, grad⟩ = wd := ⟨_, rfl⟩
    rw [hwd] at wp wt HWD ⊢
    have HWT := Lib.hid wt
    obtain ⟨L, hL⟩ : ∃ L, blen m = L := ⟨_, rfl⟩
    have HL := Lib.hid hL
    have hlo := mul_bd (k := lo) wp.2 (B := 17000) ⟨gl1, gl2⟩
    have hhi := mul_bd (k := hi + (D : Int)) wp.2 (B := 17200) ⟨by omega, by omega⟩
    have e0 : IntKind.i64.wrap (e + ((blen m : Nat) : Int)) = e + (L : Int) := by rw [IntWalk.i64_in _ (by omega), hL]
    rw [hL] at bm b0 ⊢
    clear hz h0 hig hDt wt hwd hL
    by_cases h1 : e < wd * lo
    · rw [if_pos (.inl h1)]
      go_enter Tryd.func37, Tryd.ntmps37
      go_wp2_with fail
      refine calls_lay2 (fun W1 hb1 hz1 A B => ?_)
      replace hp := hp.past hb1
      have hs1 := hb1
      ((with_reducible refine ((HWD _).out).mono ?_))
      rintro e2 w2 ⟨rfl, hb2⟩
      replace A := A.past hb2
      replace B := B.past hb2
      replace hp := hp.past hb2
      have hs2 := hs1.trans (hb2.mono hs1.size)
      obtain ⟨A_0, A_1, A_2⟩ := A.e3
      obtain ⟨B_0, B_1, B_2, B_3, B_4⟩ := B.e5
      go_wp2_with fail
      clear A_0 A_1 A_2 B_0 B_1 B_2 B_3 B_4
      obtain ⟨A_0, A_1, A_2⟩ := A.e3
      go_quiet ((go_at_call 77; exact Calls.quiet_of_same ((refLen_any p _ c m _ (hp.drewN _) rfl (by clear e0; omega)).mono fun _ _ h => ⟨h.1, h.2.symm⟩)))
      clear A_0 A_1 A_2
      have hb3 := below_drewN (Below.refl (w2).heap.size (w2)) nq
      replace A := A.past hb3
      replace B := B.past hb3
      replace hp := hp.past hb3
      have hs3 := hs2.trans (hb3.mono hs2.size)
      generalize (w2).drewN nq = w3 at *
      clear e0
      obtain ⟨A_0, A_1, A_2⟩ := A.e3
      go_wp2_with fail
      clear A_0 A_1 A_2
      go_ret
      exact ⟨rfl, hs3⟩
    · by_cases h2 : wd * (hi + D) < e + L
      · rw [if_pos (.inr h2)]
        go_enter Tryd.func37, Tryd.ntmps37
        go_wp2_with fail
        refine calls_lay2 (fun W1 hb1 hz1 A B => ?_)
        replace hp := hp.past hb1
        have hs1 := hb1
        ((with_reducible refine ((HWD _).out).mono ?_))
        rintro e2 w2 ⟨rfl, hb2⟩
        replace A := A.past hb2
        replace B := B.past hb2
        replace hp := hp.past hb2
        have hs2 := hs1.trans (hb2.mono hs1.size)
        obtain ⟨A_0, A_1, A_2⟩ := A.e3
        obtain ⟨B_0, B_1, B_2, B_3, B_4⟩ := B.e5
        go_wp2_with fail
        clear A_0 A_1 A_2 B_0 B_1 B_2 B_3 B_4
        obtain ⟨A_0, A_1, A_2⟩ := A.e3
        go_quiet ((go_at_call 77; exact Calls.quiet_of_same ((refLen_any p _ c m _ (hp.drewN _) rfl (by clear e0; omega)).mono fun _ _ h => ⟨h.1, h.2.symm⟩)))
        clear A_0 A_1 A_2
        have hb3 := below_drewN (Below.refl (w2).heap.size (w2)) nq
        replace A := A.past hb3
        replace B := B.past hb3
        replace hp := hp.past hb3
        have hs3 := hs2.trans (hb3.mono hs2.size)
        generalize (w2).drewN nq = w3 at *
        clear e0
        obtain ⟨A_0, A_1, A_2⟩ := A.e3
        go_wp2_with fail
        clear A_0 A_1 A_2
        go_ret
        exact ⟨rfl, hs3⟩
      · rw [if_neg (by omega)]
        have hxb : -80000 ≤ e + (L : Int) - 1 ∧ e + (L : Int) - 1 ≤ 3000000 := by omega
        obtain ⟨f1, f2, f3⟩ := far_div8 HWT.out hxb.1
        have q1 := ediv_abs (wd := wd) (x := e + (L : Int) - 1 + 80000) (B := 4000000) wp.1 (by omega)
        have q2 := ediv_abs (wd := wd) (x := 80000) (B := 80000) wp.1 (by omega)
        have q3 := ediv_abs (wd := wd) (x := e + (L : Int) - 1) (B := 4000000) wp.1 (by omega)
        have hb := ediv_bd (e + (L : Int) - 1) wd wp.1
        have y0 : IntKind.i64.wrap (e + (L : Int) - 1) = e + (L : Int) - 1 := IntWalk.i64_in _ (by omega)
        have y1 : IntKind.i64.wrap (e + (L : Int) - 1 + 80000) = e + (L : Int) - 1 + 80000 := IntWalk.i64_in _ (by omega)
        have y2 : IntKind.i64.wrap ((e + (L : Int) - 1 + 80000).tdiv (wd : Int)) = (e + (L : Int) - 1 + 80000) / (wd : Int) := by rw [f1, IntWalk.i64_in _ (by omega)]
        have y3 : IntKind.i64.wrap ((80000 : Int).tdiv (wd : Int)) = 80000 / (wd : Int) := by rw [f2, IntWalk.i64_in _ (by omega)]
        have y4 : IntKind.i64.wrap ((e + (L : Int) - 1 + 80000) / (wd : Int) - 80000 / (wd : Int)) = (e + (L : Int) - 1) / (wd : Int) := by rw [f3, IntWalk.i64_in _ (by omega)]
        have y5 : IntKind.i64.wrap ((e + (L : Int) - 1) / (wd : Int) - (D : Int)) = (e + (L : Int) - 1) / (wd : Int) - D := IntWalk.i64_in _ (by omega)
        obtain ⟨K, hK⟩ : ∃ K, (e + (L : Int) - 1) / (wd : Int) - D + 1 = K := ⟨_, rfl⟩
        have y6 : IntKind.i64.wrap ((e + (L : Int) - 1) / (wd : Int) - (D : Int) + 1) = K := by rw [IntWalk.i64_in _ (by omega), hK]
        have t1 : ((wd : Int) == 0) = false := beq_eq_false_iff_ne.2 (by omega)
        have hKm : -20000000 ≤ (wd : Int) * K ∧ (wd : Int) * K ≤ 20000000 := mul_bd (k := K) wp.2 (B := 5000000) ⟨by omega, by omega⟩
        rw [hK]
        have Y0 := Lib.hid y0
        have Y1 := Lib.hid y1
        have Y2 := Lib.hid y2
        have Y3 := Lib.hid y3
        have Y4 := Lib.hid y4
        have Y5 := Lib.hid y5
        have Y6 := Lib.hid y6
        have T1 := Lib.hid t1
        clear f1 f2 f3 hK y0 y1 y2 y3 y4 y5 y6 t1
        go_enter Tryd.func37, Tryd.ntmps37
        go_wp2_with fail
        refine calls_lay2 (fun W1 hb1 hz1 A B => ?_)
        replace hp := hp.past hb1
        have hs1 := hb1
        ((with_reducible refine ((HWD _).out).mono ?_))
        rintro e2 w2 ⟨rfl, hb2⟩
        replace A := A.past hb2
        replace B := B.past hb2
        replace hp := hp.past hb2
        have hs2 := hs1.trans (hb2.mono hs1.size)
        obtain ⟨A_0, A_1, A_2⟩ := A.e3
        obtain ⟨B_0, B_1, B_2, B_3, B_4⟩ := B.e5
        go_wp2_with fail
        clear A_0 A_1 A_2 B_0 B_1 B_2 B_3 B_4
        obtain ⟨A_0, A_1, A_2⟩ := A.e3
        go_quiet ((go_at_call 77; exact Calls.quiet_of_same ((refLen_any p _ c m _ (hp.drewN _) rfl (by clear e0; omega)).mono fun _ _ h => ⟨h.1, h.2.symm⟩)))
        clear A_0 A_1 A_2
        have hb3 := below_drewN (Below.refl (w2).heap.size (w2)) nq
        replace A := A.past hb3
        replace B := B.past hb3
        replace hp := hp.past hb3
        have hs3 := hs2.trans (hb3.mono hs2.size)
        generalize (w2).drewN nq = w3 at *
        clear e0
        obtain ⟨A_0, A_1, A_2⟩ := A.e3
        obtain ⟨B_0, B_1, B_2, B_3, B_4⟩ := B.e5
        go_wp2_with fail
        clear A_0 A_1 A_2 B_0 B_1 B_2 B_3 B_4
        have y0 := Y0.out
        have y1 := Y1.out
        have y2 := Y2.out
        have y3 := Y3.out
        have y4 := Y4.out
        have y5 := Y5.out
        have y6 := Y6.out
        have t1 := T1.out
        obtain ⟨B_0, B_1, B_2, B_3, B_4⟩ := B.e5
        go_quiet (fail)
        clear B_0 B_1 B_2 B_3 B_4
        have hb4 := below_drewN (Below.refl (w3).heap.size (w3)) nq
        replace A := A.past hb4
        replace B := B.past hb4
        replace hp := hp.past hb4
        have hs4 := hs3.trans (hb4.mono hs3.size)
        generalize (w3).drewN nq = w4 at *
        clear y0 y1 y2 y3 y4 y5 y6 t1
        by_cases h3 : K < lo
        · cases grad
          · have t5 := True.intro
            obtain ⟨A_0, A_1, A_2⟩ := A.e3
            obtain ⟨B_0, B_1, B_2, B_3, B_4⟩ := B.e5
            go_wp2_with fail
            clear A_0 A_1 A_2 B_0 B_1 B_2 B_3 B_4
            go_ret
            exact ⟨by simp, hs4⟩
          · by_cases h4 : wd * lo ≤ e
            · have t5 := True.intro
              obtain ⟨A_0, A_1, A_2⟩ := A.e3
              obtain ⟨B_0, B_1, B_2, B_3, B_4⟩ := B.e5
              go_wp2_with fail
              clear A_0 A_1 A_2 B_0 B_1 B_2 B_3 B_4
              go_ret
              exact ⟨by simp, hs4⟩
            · exact absurd (by omega) h4
        · by_cases h4 : wd * K ≤ e
          · have t5 := True.intro
            obtain ⟨A_0, A_1, A_2⟩ := A.e3
            obtain ⟨B_0, B_1, B_2, B_3, B_4⟩ := B.e5
            go_wp2_with fail
            clear A_0 A_1 A_2 B_0 B_1 B_2 B_3 B_4
            go_ret
            exact ⟨by simp [h3], hs4⟩
          · have t5 := True.intro
            obtain ⟨A_0, A_1, A_2⟩ := A.e3
            obtain ⟨B_0, B_1, B_2, B_3, B_4⟩ := B.e5
            go_wp2_with fail
            clear A_0 A_1 A_2 B_0 B_1 B_2 B_3 B_4
            go_ret
            exact ⟨by simp [h4], hs4⟩

end Go.Proofs.YtcipdimogodndaaDoor

namespace Go.Proofs.YtcipdimogodndaaDoor
open Go.RowKit Go.Slip

set_option maxHeartbeats 1000000 in
theorem refPow2_any (N : Nat) (w : World) (hN : N ≤ 1000000000) :
    Calls Tryd.prog 62 #[.int .i64 N] w (GivesR w .i64 (dig B16 (2 ^ N))) := by
  have hs : N % 16 < 16 := Nat.mod_lt _ (by omega)
  have HD := Lib.hid (pow2_dig (B := B16) (w := 16) (by decide) (by omega) N)
  go_enter Tryd.func62, Tryd.ntmps62
  go_wp2_with (refine wpl_make rfl _ _ _ rfl tyN .i64 .i64 (N / 16 + 1) _ _ rfl rfl ?_ ?_ ?_ ?_; omega; omega; omega; intro p1 c1 w1 ho1 hb1 hz1)
  go_loop [4, 5] (fun dv iv => ∃ (i t : Nat), iv = .int .i64 i ∧ dv = .int .i64 t ∧ i ≤ N % 16 ∧ t ≤ 65536 ∧ Hid (t = 2 ^ i)) (fun _ iv => N % 16 - (intOf iv).toNat)
  case atStart => exact ⟨0, 1, rfl, rfl, Nat.zero_le _, by omega, rfl⟩
  case round =>
    obtain ⟨i, t, rfl, rfl, hi, ht, HT⟩ := hrel
    by_cases h1 : i < N % 16
    · have HS : Hid (2 * t = 2 ^ (i + 1)) := by show 2 * t = 2 ^ (i + 1); rw [HT.out, Nat.pow_succ]; omega
      have hb : 2 * t ≤ 65536 := by
        rw [HS.out]; exact Nat.pow_le_pow_right (show 0 < 2 by omega) (show i + 1 ≤ 16 by omega)
      go_wp2
      go_round
      case rel => exact ⟨i + 1, 2 * t, by go_num, by go_num, by omega, hb, HS⟩
      case measure => simp [intOf]; omega
    · obtain rfl : i = N % 16 := by omega
      have hso := ho1.solid
      rw [List.length_replicate] at hso
      have hsm := hso
      go_wp2_with (refine wpl_store rfl _ _ _ rfl 3 tyN _ _ _ _ ho1 (N / 16) (by simp) _ ?_ rfl rfl ?_; omega; intro w3 ho3 hg3 hb3)
      go_ret
      rw [Int.toNat_natCast, HT.out, HD.out] at ho3
      refine ⟨p1, c1, ?_, ho3.rd, ho3.le_cap, own_blk ho3, hb1.trans hb3⟩
      rw [← HD.out]; simp

theorem dig_len_pow2 (N : Nat) : (dig B16 (2 ^ N)).length = N / 16 + 1 := by
  rw [← pow2_dig (B := B16) (w := 16) (by decide) (by omega) N]; simp

set_option maxHeartbeats 1000000 in
theorem refUp_any (p : Option Addr) (n c : Nat) (a N : Nat) (w : World) (hp : Rd w .i64 p (dig B16 a)) (hn : n = (dig B16 a).length) (hl : (dig B16 a).length ≤ 100000000) (hN : N ≤ 1000000000) :
    Calls Tryd.prog 99 #[.slice p n c, .int .i64 N] w (GivesR w .i64 (dig B16 (a * 2 ^ N))) := by
  subst hn
  by_cases h0 : (dig B16 a).length = 0
  · have : a = 0 := (dig_len_zero B16_two a).1 h0
    subst this
    rw [Nat.zero_mul]
    rw [dig_zero] at *
    go_enter Tryd.func99, Tryd.ntmps99
    go_wp2
    go_ret
    exact ⟨none, 0, rfl, Rd.nil _ _ _, by simp, by simp, Below.refl _ _⟩
  · have hlp := Nat.le_of_eq (dig_len_pow2 N)
    have h1 : 1 ≤ (dig B16 a).length := by omega
    clear h0
    go_enter Tryd.func99, Tryd.ntmps99
    go_wp2_with fail
    refine (refPow2_any N _ hN).mono ?_
    rintro e w1 ⟨p1, c1, rfl, ho1, -, -, hb1⟩
    go_wp2_with fail
    refine (refTimes_any p p1 _ _ c c1 a (2 ^ N) _ (hp.past hb1) ho1 rfl rfl (by omega)).mono ?_
    rintro e w2 ⟨p2, c2, rfl, ho2, hc2, hn2, hb2⟩
    go_wp2_with fail
    go_ret
    exact ⟨p2, c2, rfl, ho2, hc2, fun h => Nat.le_trans hb1.size (hn2 h), hb1.trans (hb2.mono hb1.size)⟩

theorem down_done {O Y : List Nat} {N a : Nat} (h : DownRel B16 (2 ^ (N % 16)) O Y Y.length) (hY : val B16 Y = a / B16 ^ (N / 16)) : val B16 O = a / 2 ^ N := by
  rw [h.done, hY, shift_split (B := B16) (w := 16) (by decide)]

set_option maxHeartbeats 1000000 in
set_option maxRecDepth 100000 in
theorem refDown_any (p : Option Addr) (n c : Nat) (a N : Nat) (w : World) (hp : Rd w .i64 p (dig B16 a)) (hn : n = (dig B16 a).length) (hl : (dig B16 a).length ≤ 1000000000) (hN : N ≤ 9223372036854775807) :
    Calls Tryd.prog 97 #[.slice p n c, .int .i64 N] w (GivesR w .i64 (dig B16 (a / 2 ^ N))) := by
  subst hn
  by_cases h0 : (dig B16 a).length ≤ N / 16
  · rw [div_of_big (w := 16) (by decide) B16_two a N h0]
    rw [dig_zero]
    go_enter Tryd.func97, Tryd.ntmps97
    go_wp2
    go_ret
    exact ⟨none, 0, rfl, Rd.nil _ _ _, by simp, by simp, Below.refl _ _⟩
  · have HXL := Lib.hid (dig_lt B16_two a)
    have HV := Lib.hid (val_drop_div (B := B16) B16_pos _ (dig_lt B16_two a) (N / 16))
    rw [val_dig B16_two] at HV
    generalize dig B16 a = xs at *
    have hsx := hp.solid
    have hk : N / 16 < xs.length := by omega
    have HY := Lib.hid (show ∀ x ∈ xs.drop (N / 16), x < B16 from fun x h => HXL.out x (List.mem_of_mem_drop h))
    have hyl : (xs.drop (N / 16)).length = xs.length - N / 16 := List.length_drop
    have hylp : (xs.drop (N / 16)).length + N / 16 ≤ xs.length := by omega
    have hylq : xs.length ≤ (xs.drop (N / 16)).length + N / 16 := by omega
    have HG := Lib.hid (show ∀ j, dg (xs.drop (N / 16)) j = dg xs (N / 16 + j) from fun j => dg_drop)
    clear h0 hyl
    have hs : N % 16 < 16 := Nat.mod_lt _ (by omega)
    generalize xs.drop (N / 16) = ys at *
    have H0 := Lib.hid (DownRel.start B16 (2 ^ (N % 16)) ys)
    have hpm : B16 % 2 ^ (N % 16) = 0 := pow_mod_zero (w := 16) (by omega)
    have hpm := Lib.hid hpm
    go_enter Tryd.func97, Tryd.ntmps97
    go_wp2
    go_loop [5, 6] (fun dv iv => ∃ (i t : Nat), iv = .int .i64 i ∧ dv = .int .i64 t ∧ i ≤ N % 16 ∧ t ≤ 65536 ∧ Hid (t = 2 ^ i)) (fun _ iv => N % 16 - (intOf iv).toNat)
    case atStart => exact ⟨0, 1, rfl, rfl, Nat.zero_le _, by omega, rfl⟩
    case round =>
      obtain ⟨i, t, rfl, rfl, hi, ht, HT⟩ := hrel
      by_cases h1 : i < N % 16
      · have HS : Hid (2 * t = 2 ^ (i + 1)) := by show 2 * t = 2 ^ (i + 1); rw [HT.out, Nat.pow_succ]; omega
        have hb : 2 * t ≤ 65536 := by
          rw [HS.out]; exact Nat.pow_le_pow_right (show 0 < 2 by omega) (show i + 1 ≤ 16 by omega)
        go_wp2
        go_round
        case rel => exact ⟨i + 1, 2 * t, by go_num, by go_num, by omega, hb, HS⟩
        case measure => simp [intOf]; omega
      · obtain rfl : i = N % 16 := by omega
        have htp : 1 ≤ t := by rw [HT.out]; exact Nat.pow_pos (by omega)
        go_wp2
        rw [← HT.out] at H0 hpm
        go_loopg [7, 8] (ys.length) (fun g ov iv wr => ∃ (i : Nat) (q : Option Addr) (e : Nat) (O : List Nat), iv = .int .i64 ((N / 16 + i : Nat) : Int) ∧ ov = .slice q O.length e ∧ g + i = ys.length ∧ i ≤ ys.length ∧ Hid (O.length = i) ∧
            Own wr w.heap.size .i64 3 q e O ∧ Below w.heap.size w wr ∧ Hid (DownRel B16 t O ys i))
        case atStart => exact ⟨0, none, 0, [], by go_num, rfl, by omega, by omega, rfl, Own.nil _ _ _ _, Below.refl _ _, H0⟩
        case round =>
          obtain ⟨i, q, e, O, rfl, rfl, hg, hi, hO, hoq, hb, HR⟩ := hrel
          have hpL := hp.past hb
          have hyd := getD_lt (B := 65536) (by omega) ys HY.out i
          have hyd2 := getD_lt (B := 65536) (by omega) ys HY.out (i + 1)
          by_cases hlt : i < ys.length
          · have hc1 := hpL.cells (N / 16 + i) (by omega)
            rw [← HG.out] at hc1
            obtain ⟨v, hv⟩ : ∃ v, v = dg ys i / t := ⟨_, rfl⟩
            have ev : ((dg ys i : Nat) : Int) / (t : Int) = (v : Nat) := by rw [hv]; rfl
            have hvd : v < 65536 := by rw [hv]; exact Nat.lt_of_le_of_lt (Nat.div_le_self _ _) hyd
            by_cases h2 : i + 1 < ys.length
            · have hc2 := hpL.cells (N / 16 + (i + 1)) (by omega)
              rw [← HG.out] at hc2
              obtain ⟨m, hm⟩ : ∃ m, m = dg ys (i + 1) % t := ⟨_, rfl⟩
              obtain ⟨k, hk2⟩ : ∃ k, k = 65536 / t := ⟨_, rfl⟩
              obtain ⟨r, hr⟩ : ∃ r, r = m * k := ⟨_, rfl⟩
              obtain ⟨u, hu⟩ : ∃ u, u = v + r := ⟨_, rfl⟩
              have hue : u = dg ys i / t + dg ys (i + 1) % t * (B16 / t) := by rw [hu, hr, hm, hk2, hv]; rfl
              have hub : u < 65536 := by rw [hue]; exact shr_lt htp hpm.out hyd
              have HS := Lib.hid (HR.out.step htp hpm.out HY.out hlt u hue)
              have hkb : k ≤ 65536 := by rw [hk2]; exact Nat.div_le_self _ _
              have i0 : (0 : Int) ≤ (N : Int) / 16 + i + 1 := by omega
              have i1 : (N : Int) / 16 + i + 1 < (xs.length : Int) := by omega
              have e1 : IntKind.i64.wrap ((N : Int) / 16 + i + 1) = (N : Int) / 16 + i + 1 := IntWalk.i64_in _ (by omega)
              have e2 : ((dg ys (i + 1) : Nat) : Int).tmod (t : Int) = (m : Nat) := by rw [Int.tmod_eq_emod_of_nonneg (by omega), hm]; rfl
              have e3 : IntKind.i64.wrap ((65536 : Int) / (t : Int)) = (k : Nat) := by rw [hk2]; exact IntWalk.i64_in _ (by have : ((65536 / t : Nat) : Int) = 65536 / (t : Int) := rfl; omega)
              have e4 : IntKind.i64.wrap ((m : Int) * (k : Int)) = (r : Nat) := by
                have : (m : Int) * (k : Int) = (r : Nat) := by rw [hr]; simp
                rw [this]; exact IntWalk.i64_in _ (by omega)
              have e5 : IntKind.i64.wrap ((v : Int) + (r : Int)) = (u : Nat) := by rw [hu]; exact IntWalk.i64_in _ (by omega)
              have e6 : ((N : Int) / 16 + i + 1).toNat = N / 16 + (i + 1) := by omega
              have e7 : ¬ t = 0 := by omega
              have e8 : (65536 : Int).tdiv (t : Int) = (65536 : Int) / (t : Int) := Int.tdiv_eq_ediv_of_nonneg (by omega)
              clear hu hr hm hk2 hv hue
              go_wp2_with fail
              go_quiet (fail)
              have hoq := hoq.drewN nq
              have hb := hb.trans (below_drewN (Below.refl _ wr) nq)
              clear e1 e2 e3 e4 e5 e6 e7 e8 i0 i1 hc1 hc2 hpL
              go_wp2_with (first
                | (refine wpl_build1 rfl _ _ rfl tyN _ ?_ rfl ?_; omega; intro p2 w2 ho2 hb2 hz2 hp2)
                | (at_builtin; refine wpl_append rfl _ _ _ rfl tyN _ _ _ _ _ (hoq.past hb2) rfl _ _ _ _ ho2.rd rfl rfl rfl ?_ ?_ ?_; (have := hO.out; simp; omega); (have := hb2.size; have := hb.size; omega); intro p3 c3 w3 ho3 hg3 hb3 hn3))
              have hb4 := hb.trans ((hb2.mono hb.size).trans hb3)
              rw [Int.toNat_natCast] at ho3
              go_roundg (ys.length - 1 - i)
              case measure => omega
              case rel => exact ⟨i + 1, p3, c3, _, by go_num, by simp, by omega, by omega, (by show (O ++ _).length = _; have := hO.out; rw [List.length_append, List.length_singleton]; omega), ho3, hb4, HS⟩
            · have HS := Lib.hid (HR.out.step htp hpm.out HY.out hlt v (by rw [hv, dg_of_ge (show ys.length ≤ i + 1 by omega), Nat.zero_mod, Nat.zero_mul]; rfl))
              clear hv
              go_wp2_with (first
                | (refine wpl_build1 rfl _ _ rfl tyN _ ?_ rfl ?_; omega; intro p2 w2 ho2 hb2 hz2 hp2)
                | (at_builtin; refine wpl_append rfl _ _ _ rfl tyN _ _ _ _ _ (hoq.past hb2) rfl _ _ _ _ ho2.rd rfl rfl rfl ?_ ?_ ?_; (have := hO.out; simp; omega); (have := hb2.size; have := hb.size; omega); intro p3 c3 w3 ho3 hg3 hb3 hn3))
              have hb4 := hb.trans ((hb2.mono hb.size).trans hb3)
              rw [Int.toNat_natCast] at ho3
              go_roundg (ys.length - 1 - i)
              case measure => omega
              case rel => exact ⟨i + 1, p3, c3, _, by go_num, by simp, by omega, by omega, (by show (O ++ _).length = _; have := hO.out; rw [List.length_append, List.length_singleton]; omega), ho3, hb4, HS⟩
          · obtain rfl : i = ys.length := by omega
            have HD := Lib.hid (down_done (by rw [← HT.out]; exact HR.out) HV.out)
            have HX := Lib.hid HR.out.1
            go_wp2_with (go_at_call 98; refine (refTrim_any _ _ _ O _ hoq.rd rfl hoq.le_cap HX.out (by rw [hO.out]; omega)).mono ?_; rintro e w3 ⟨rfl, rfl⟩)
            go_ret
            have ht := take_dig_len B16_two O HX.out
            have ho2 := hoq.take (dig B16 (val B16 O)).length
            rw [ht, HD.out] at ho2
            rw [HD.out]
            exact ⟨q, _, rfl, ho2.rd, Nat.le_refl _, own_blk ho2, hb⟩

end Go.Proofs.YtcipdimogodndaaDoor

namespace Go.Proofs.YtcipdimogodndaaDoor
open Go.RowKit Go.Slip

set_option maxHeartbeats 1000000 in
theorem refBared_zero (g : Bool) (p : Option Addr) (c : Nat) (e : Int) (w : World) :
    Calls Tryd.prog 48 #[.agg #[.bool g, .slice p 0 c, .int .i64 e]] w (GivesF w (fun _ => False) ⟨false, 0, 0⟩) := by
  go_enter Tryd.func48, Tryd.ntmps48
  go_wp2
  refine bodyPost_ret (v := .agg #[.bool false, .slice none 0 0, .int .i64 0]) (by simp [results, Tryd.results48, go_sem]) rfl ?_
  exact ⟨none, 0, by rw [dig_zero]; rfl, by rw [dig_zero]; exact Rd.nil _ _ _, by rw [dig_zero]; simp, by rw [dig_zero]; simp, ((Below.refl _ _).alloc (Nat.le_refl _) _).alloc (by simp) _⟩

set_option maxHeartbeats 2000000 in
set_option maxRecDepth 100000 in
theorem refBared_pos (g : Bool) (p : Option Addr) (n c : Nat) (e : Int) (m : Nat) (w : World) (hp : Rd w .i64 p (dig B16 m)) (hn : n = (dig B16 m).length) (hl : (dig B16 m).length ≤ 10000000) (h0 : 0 < m)
    (he : -1000000000 ≤ e ∧ e ≤ 1000000000) :
    Calls Tryd.prog 48 #[.agg #[.bool g, .slice p n c, .int .i64 e]] w (GivesF w (fun _ => False) (bare ⟨g, m, e⟩)) := by
  subst hn
  have hl0 : 0 < (dig B16 m).length := by
    have := dig_len_zero B16_two m
    omega
  have t1 : (((dig B16 m).length : Int) == 0) = false := beq_eq_false_iff_ne.2 (by omega)
  obtain ⟨W1, hW1, hs1, A1, R1, hz1⟩ := box2s w (.bool g) (.slice p (dig B16 m).length c) (.int .i64 e) (.bool false) (.slice none 0 0) (.int .i64 0) 34 34
  have hp1 := hp.past hs1
  have HB := Lib.hid (bare_pos (g := g) (e := e) h0)
  have htz : tz m ≤ 1000000000 := by have := tz_lt_blen h0; have := blen_len16 m; omega
  have HV := Lib.hid (val_dig B16_two m)
  have HX := Lib.hid (dig_lt B16_two m)
  have HW1 := Lib.hid hW1
  obtain ⟨xs, hxs⟩ : ∃ xs, xs = dig B16 m := ⟨_, rfl⟩
  have HXS := Lib.hid hxs
  rw [← hxs] at hp hl hl0 t1 A1 hp1 HV HX HW1 ⊢
  have hsx := hp1.solid
  have a1 := A1.c1
  clear hW1 hxs
  go_enter Tryd.func48, Tryd.ntmps48
  go_wp2_with fail
  rw [← HW1.out]
  clear HW1
  go_wp2
  go_loopg [3] xs.length (fun gk nv wr => ∃ (j n : Nat), nv = .int .i64 n ∧ gk + j = xs.length ∧ wr = W1 ∧ Hid (BareOut xs j n))
  case atStart => exact ⟨0, 0, rfl, rfl, rfl, BareOut.start xs⟩
  case round =>
    obtain ⟨j, n, rfl, hgk, rfl, HO⟩ := hrel
    have hlt := HO.out.lt HV.out h0
    have hd := getD_lt (B := 65536) (by omega) xs HX.out j
    have hn1 : (n : Int) ≤ 160000000 := by have := HO.out.1; omega
    have e1 : (n : Int) / 16 = (j : Int) := by have := HO.out.1; omega
    have hcell := hp1.cells j hlt
    by_cases hz : dg xs j = 0
    · have HS := Lib.hid (HO.out.step hz)
      rw [hz] at hcell
      have hgi : 0 < gk := by omega
      clear hz
      go_wp2
      go_roundg (gk - 1)
      case measure => omega
      case rel => exact ⟨j + 1, n + 16, by go_num, by omega, rfl, HS⟩
    · have h0d : 0 < dg xs j := by omega
      have HI := Lib.hid (BareIn.start HO.out HV.out h0d hd)
      have t2 : (((dg xs j : Nat) : Int) == 0) = false := beq_eq_false_iff_ne.2 (by omega)
      clear hz
      go_wp2
      have hjn : n ≤ 160000000 := by omega
      clear e1 hcell t2 hn1
      obtain ⟨d0, hd0⟩ : ∃ d0, dg xs j = d0 := ⟨_, rfl⟩
      rw [hd0] at HI hd h0d ⊢
      clear hd0
      go_loopg [3, 4] d0 (fun gk nv dv wx => ∃ (n2 : Nat), nv = .int .i64 n2 ∧ dv = .int .i64 gk ∧ gk < 65536 ∧ wx = wr ∧ Hid (BareIn m gk n2))
      case atStart => exact ⟨n, rfl, rfl, hd, rfl, HI⟩
      case round =>
        obtain ⟨n2, rfl, rfl, hgl, rfl, HN⟩ := hrel
        have hn2 : n2 ≤ 1000000000 := by obtain ⟨t, h1, h2, h3⟩ := HN.out; omega
        have hg0 : 0 < gk := by obtain ⟨t, h1, h2, h3⟩ := HN.out; omega
        by_cases hev : gk % 2 = 0
        · have HS := Lib.hid (HN.out.step hev)
          have t3 : (gk : Int) % 2 = 0 := by omega
          clear hev
          go_wp2
          go_roundg (gk / 2)
          case measure => omega
          case rel => exact ⟨n2 + 1, by go_num, by go_num, by omega, rfl, HS⟩
        · have HD := HN.out.done (by omega)
          have t3 : (gk : Int) % 2 = 1 := by omega
          subst HD
          obtain ⟨t, ht⟩ : ∃ t, tz m = t := ⟨_, rfl⟩
          have HT := Lib.hid ht
          rw [ht] at htz HB hn2 HN ⊢
          clear ht hev
          go_wp2_with fail
          clear t3
          have e1 : IntKind.i64.wrap (e + (t : Int)) = e + (t : Int) := IntWalk.i64_in _ (by omega)
          have hpm : Rd wr .i64 p (dig B16 m) := by rw [← HXS.out]; exact hp1
          go_region_held3 (fun w' => w'.cell? ⟨w.heap.size, 0, none⟩ = some (.bool g) ∧ w'.cell? ⟨w.heap.size, 1, none⟩ = some (.slice p xs.length c) ∧ w'.cell? ⟨w.heap.size, 2, none⟩ = some (.int .i64 e))
            (first | exact ⟨A1.c0, A1.c1, A1.c2⟩
                   | (have D1 := A1.drew; exact ⟨D1.c0, D1.c1, D1.c2⟩)
                   | (have D1 := A1.drew.past hb2; exact ⟨D1.c0, D1.c1, D1.c2⟩)
                   | (have D1 := A1.drew.past hb2; exact ⟨(((D1.set (by omega)).set (by omega)).set (by omega)).c0, (((D1.set (by omega)).set (by omega)).set (by omega)).c1, (((D1.set (by omega)).set (by omega)).set (by omega)).c2⟩))
            (first | (go_at_call 97; refine (refDown_any p _ c m t _ hpm.drew (by rw [HXS.out]) (by rw [← HXS.out]; clear e1; omega) (by clear e1; omega)).mono ?_; rintro e2 w2 ⟨p2, c2, rfl, hr2, hc2, hf2, hb2⟩; obtain ⟨d0, d1, d2, f0, f1, f2, dlt⟩ := R1.drew.past hb2))
          all_goals (go_wp2_with fail)
          refine bodyPost_ret (v := .agg #[.bool g, .slice p2 (dig B16 (m / 2 ^ t)).length c2, .int .i64 (e + (t : Int))]) (by simp [results, Tryd.results48, go_sem, d0, d1, d2]) rfl ?_
          rw [HB.out]
          clear e1
          have hzd : wr.drew.heap.size = wr.heap.size := rfl
          exact givesF_close (d := ⟨g, m / 2 ^ t, e + t⟩) (hs1.drew.trans (hb2.mono hs1.size)) hr2 hc2 (fun h => .inr (by have := hf2 h; simp only at *; omega)) (by omega) (fun h => by have := hf2 h; simp only at *; omega)

theorem refBared_any (g : Bool) (p : Option Addr) (n c : Nat) (e : Int) (m : Nat) (w : World) (hp : Rd w .i64 p (dig B16 m)) (hn : n = (dig B16 m).length) (hl : (dig B16 m).length ≤ 10000000)
    (he : -1000000000 ≤ e ∧ e ≤ 1000000000) :
    Calls Tryd.prog 48 #[.agg #[.bool g, .slice p n c, .int .i64 e]] w (GivesF w (fun _ => False) (bare ⟨g, m, e⟩)) := by
  by_cases h0 : m = 0
  · subst h0
    rw [dig_zero] at hn
    subst hn
    exact refBared_zero g p c e w
  · exact refBared_pos g p n c e m w hp hn hl (by omega) he

end Go.Proofs.YtcipdimogodndaaDoor

namespace Go.Proofs.YtcipdimogodndaaDoor
open Go.RowKit Go.Slip

set_option maxHeartbeats 1000000 in
set_option maxRecDepth 100000 in
theorem refLess_any (p q : Option Addr) (n m c d : Nat) (a b : Nat) (w : World) (hp : Rd w .i64 p (dig B16 a)) (hq : Rd w .i64 q (dig B16 b)) (hn : n = (dig B16 a).length) (hm : m = (dig B16 b).length)
    (hl : (dig B16 a).length ≤ 1000000000) (hab : b ≤ a) :
    Calls Tryd.prog 78 #[.slice p n c, .slice q m d] w (GivesR w .i64 (dig B16 (a - b))) := by
  subst hn hm
  have hge := dig_len_mono B16_two hab
  have HXL := Lib.hid (dig_lt B16_two a)
  have HYL := Lib.hid (dig_lt B16_two b)
  have HA := Lib.hid (val_dig B16_two a)
  have HB := Lib.hid (val_dig B16_two b)
  generalize dig B16 a = xs at *
  generalize dig B16 b = ys at *
  have hsx := hp.solid
  have hsy := hq.solid
  go_enter Tryd.func78, Tryd.ntmps78
  go_wp2
  go_loopg [5, 6, 7] (xs.length) (fun g ov cv iv wr => ∃ (i cr : Nat) (t : Option Addr) (e : Nat) (O : List Nat), iv = .int .i64 i ∧ cv = .int .i64 cr ∧ ov = .slice t O.length e ∧ g + i = xs.length ∧ cr ≤ 1 ∧ i ≤ xs.length ∧ Hid (O.length = i) ∧
      Own wr w.heap.size .i64 3 t e O ∧ Below w.heap.size w wr ∧ Hid (LessRel O xs ys i cr))
  case atStart => exact ⟨0, 0, none, 0, [], rfl, rfl, rfl, by omega, by omega, by omega, rfl, Own.nil _ _ _ _, Below.refl _ _, LessRel.start xs ys⟩
  case round =>
    obtain ⟨i, cr, t, e, O, rfl, rfl, rfl, hg, hcr, hi, hO, hoq, hb, HR⟩ := hrel
    have hpL := hp.past hb
    have hqL := hq.past hb
    have hxd := getD_lt (B := 65536) (by omega) xs HXL.out i
    have hyd := getD_lt (B := 65536) (by omega) ys HYL.out i
    by_cases h1 : i < xs.length
    · have hc1 := hpL.cells i h1
      by_cases h2 : i < ys.length
      · have hc2 := hqL.cells i h2
        by_cases h3 : dg xs i < dg ys i + cr
        · have HS := Lib.hid (HR.out.step (dg xs i + 65536 - dg ys i - cr) 1 (by unfold B16; omega) (by omega) (by unfold B16; omega))
          go_wp2_with (first
            | (refine wpl_build1 rfl _ _ rfl tyN _ ?_ rfl ?_; omega; intro p2 w2 ho2 hb2 hz2 hp2)
            | (at_builtin; refine wpl_append rfl _ _ _ rfl tyN _ _ _ _ _ (hoq.past hb2) rfl _ _ _ _ ho2.rd rfl rfl rfl ?_ ?_ ?_; (have := hO.out; simp; omega); (have := hb2.size; have := hb.size; omega); intro p3 c3 w3 ho3 hg3 hb3 hn3))
          have hb4 := hb.trans ((hb2.mono hb.size).trans hb3)
          have e4 : ((dg xs i : Int) - cr - dg ys i + 65536).toNat = dg xs i + 65536 - dg ys i - cr := by omega
          rw [e4] at ho3
          go_roundg (xs.length - 1 - i)
          case measure => omega
          case rel => exact ⟨i + 1, 1, p3, c3, _, by go_num, rfl, by simp, by omega, by omega, by omega, (by show (O ++ _).length = i + 1; have := hO.out; simp; omega), ho3, hb4, HS⟩
        · have HS := Lib.hid (HR.out.step (dg xs i - dg ys i - cr) 0 (by unfold B16; omega) (by omega) (by unfold B16; omega))
          go_wp2_with (first
            | (refine wpl_build1 rfl _ _ rfl tyN _ ?_ rfl ?_; omega; intro p2 w2 ho2 hb2 hz2 hp2)
            | (at_builtin; refine wpl_append rfl _ _ _ rfl tyN _ _ _ _ _ (hoq.past hb2) rfl _ _ _ _ ho2.rd rfl rfl rfl ?_ ?_ ?_; (have := hO.out; simp; omega); (have := hb2.size; have := hb.size; omega); intro p3 c3 w3 ho3 hg3 hb3 hn3))
          have hb4 := hb.trans ((hb2.mono hb.size).trans hb3)
          have e4 : ((dg xs i : Int) - cr - dg ys i).toNat = dg xs i - dg ys i - cr := by omega
          rw [e4] at ho3
          go_roundg (xs.length - 1 - i)
          case measure => omega
          case rel => exact ⟨i + 1, 0, p3, c3, _, by go_num, rfl, by simp, by omega, by omega, by omega, (by show (O ++ _).length = i + 1; have := hO.out; simp; omega), ho3, hb4, HS⟩
      · have ez : dg ys i = 0 := dg_of_ge (by omega)
        by_cases h3 : dg xs i < cr
        · have HS := Lib.hid (HR.out.step (dg xs i + 65536 - cr) 1 (by unfold B16; omega) (by omega) (by unfold B16; omega))
          clear ez hyd
          go_wp2_with (first
            | (refine wpl_build1 rfl _ _ rfl tyN _ ?_ rfl ?_; omega; intro p2 w2 ho2 hb2 hz2 hp2)
            | (at_builtin; refine wpl_append rfl _ _ _ rfl tyN _ _ _ _ _ (hoq.past hb2) rfl _ _ _ _ ho2.rd rfl rfl rfl ?_ ?_ ?_; (have := hO.out; simp; omega); (have := hb2.size; have := hb.size; omega); intro p3 c3 w3 ho3 hg3 hb3 hn3))
          have hb4 := hb.trans ((hb2.mono hb.size).trans hb3)
          have e4 : ((dg xs i : Int) - cr + 65536).toNat = dg xs i + 65536 - cr := by omega
          rw [e4] at ho3
          go_roundg (xs.length - 1 - i)
          case measure => omega
          case rel => exact ⟨i + 1, 1, p3, c3, _, by go_num, rfl, by simp, by omega, by omega, by omega, (by show (O ++ _).length = i + 1; have := hO.out; simp; omega), ho3, hb4, HS⟩
        · have HS := Lib.hid (HR.out.step (dg xs i - cr) 0 (by unfold B16; omega) (by omega) (by unfold B16; omega))
          clear ez hyd
          go_wp2_with (first
            | (refine wpl_build1 rfl _ _ rfl tyN _ ?_ rfl ?_; omega; intro p2 w2 ho2 hb2 hz2 hp2)
            | (at_builtin; refine wpl_append rfl _ _ _ rfl tyN _ _ _ _ _ (hoq.past hb2) rfl _ _ _ _ ho2.rd rfl rfl rfl ?_ ?_ ?_; (have := hO.out; simp; omega); (have := hb2.size; have := hb.size; omega); intro p3 c3 w3 ho3 hg3 hb3 hn3))
          have hb4 := hb.trans ((hb2.mono hb.size).trans hb3)
          have e4 : ((dg xs i : Int) - cr).toNat = dg xs i - cr := by omega
          rw [e4] at ho3
          go_roundg (xs.length - 1 - i)
          case measure => omega
          case rel => exact ⟨i + 1, 0, p3, c3, _, by go_num, rfl, by simp, by omega, by omega, by omega, (by show (O ++ _).length = i + 1; have := hO.out; simp; omega), ho3, hb4, HS⟩
    · obtain rfl : i = xs.length := by omega
      have HD := Lib.hid (HR.out.done HA.out HB.out hge hab)
      go_wp2_with (go_at_call 98; refine (refTrim_any _ _ _ O _ hoq.rd rfl hoq.le_cap HR.out.1 (by rw [hO.out]; omega)).mono ?_; rintro e w3 ⟨rfl, rfl⟩)
      go_ret
      have ht := take_dig_len B16_two O HR.out.1
      have ho2 := hoq.take (dig B16 (val B16 O)).length
      rw [ht, HD.out] at ho2
      rw [HD.out]
      exact ⟨t, _, rfl, ho2.rd, Nat.le_refl _, own_blk ho2, hb⟩

end Go.Proofs.YtcipdimogodndaaDoor

namespace Go.Proofs.YtcipdimogodndaaDoor
open Go.RowKit Go.Slip

set_option maxHeartbeats 1000000 in
theorem refFloorOf_any (g : Bool) (p : Option Addr) (n c : Nat) (e : Int) (a : Nat) (w : World) (hp : Rd w .i64 p (dig B16 a)) (hn : n = (dig B16 a).length) (hl : (dig B16 a).length ≤ 1000000) (he : -1000000 ≤ e ∧ e ≤ 1000000) :
    Calls Tryd.prog 68 #[.agg #[.bool g, .slice p n c, .int .i64 e]] w (GivesR w .i64 (dig B16 (dFloor ⟨g, a, e⟩))) := by
  subst hn
  have hs1 : Below w.heap.size w (w.alloc (.cells #[.bool g, .slice p (dig B16 a).length c, .int .i64 e] 34)) := (Below.refl _ _).alloc (Nat.le_refl _) _
  by_cases h0 : 0 ≤ e
  · obtain ⟨N, rfl⟩ : ∃ N : Nat, e = (N : Int) := ⟨e.toNat, by omega⟩
    have hd : dFloor ⟨g, a, (N : Int)⟩ = a * 2 ^ N := by unfold dFloor; simp
    rw [hd]
    clear hd
    go_enter Tryd.func68, Tryd.ntmps68
    go_wp2_with fail
    ((with_reducible refine (refUp_any p _ c a N _ (hp.past hs1) rfl (by omega) (by omega)).mono ?_))
    rintro e2 w2 ⟨p2, c2, rfl, hr2, hc2, hf2, hb2⟩
    go_wp2_with fail
    go_ret
    exact ⟨p2, c2, rfl, hr2, hc2, fun h => Nat.le_trans (by simp) (hf2 h), hs1.trans (hb2.mono hs1.size)⟩
  · obtain ⟨N, hN⟩ : ∃ N : Nat, -e = (N : Int) := ⟨(-e).toNat, by omega⟩
    have hd : dFloor ⟨g, a, e⟩ = a / 2 ^ N := by unfold dFloor; rw [if_neg h0, hN]; simp
    rw [hd]
    have e1 : IntKind.i64.wrap (-e) = (N : Int) := by rw [IntWalk.i64_in _ (by omega)]; exact hN
    have t1 : e < 0 := by omega
    clear hd h0
    go_enter Tryd.func68, Tryd.ntmps68
    go_wp2_with fail
    ((with_reducible refine (refDown_any p _ c a N _ (hp.past hs1) rfl (by omega) (by omega)).mono ?_))
    rintro e2 w2 ⟨p2, c2, rfl, hr2, hc2, hf2, hb2⟩
    go_wp2_with fail
    go_ret
    exact ⟨p2, c2, rfl, hr2, hc2, fun h => Nat.le_trans (by simp) (hf2 h), hs1.trans (hb2.mono hs1.size)⟩

end Go.Proofs.YtcipdimogodndaaDoor

namespace Go.Slip
end Go.Slip
namespace Go.Proofs.YtcipdimogodndaaDoor
open Go.RowKit Go.Slip

theorem dig16_one : dig B16 1 = [1] := by rw [dig_pos B16_two (by omega), show 1 / B16 = 0 by unfold B16; omega, dig_zero, show 1 % B16 = 1 by unfold B16; omega]
theorem max_is (x y : Int) : (if y > x then y else x) = max x y := by split <;> omega

theorem rf_one {w : World} {b : Nat} {t : TypeId} (h : Bt w b t #[.int .i64 1]) : Rf w b (some ⟨b, 0, none⟩) 1 (dig B16 1) := by rw [dig16_one]; exact rf_lit (k := 1) h
theorem len16_one : 1 = (dig B16 1).length := by rw [dig16_one]; rfl
theorem stay {P : Program} {f : FuncId} {args : Array Value} {w : World} {E : Ending} (h : Calls P f args w fun e w' => e = E ∧ w = w') : Calls P f args w fun e w' => e = E ∧ Below w.heap.size w w' :=
  h.mono fun e w' ⟨h1, h2⟩ => ⟨h1, by subst h2; exact Below.refl _ _⟩

end Go.Proofs.YtcipdimogodndaaDoor
