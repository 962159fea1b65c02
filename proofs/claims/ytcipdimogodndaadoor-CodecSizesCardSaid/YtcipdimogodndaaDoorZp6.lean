/- The reference's bits of a pattern: BitsOf, Value.
   The reference's Value, and what DecodeOf's closure tells.
   The reference's DecodeOf.
   references: OfRatio, parts.
   The reference's ToValue and SameValue.
   What the laws of chapter 5 begin with: codecBegun.
   The laws CodecDecodes and CodecClasses. -/
import Derived.Deep.LoopGhost
import Derived.Deep.RegionHeld3
import Derived.Test.YtcipdimogodndaaDoorZp1
import Derived.Test.YtcipdimogodndaaDoorZp2
import Derived.Test.YtcipdimogodndaaDoorZp3
import Derived.Test.YtcipdimogodndaaDoorZp4
import Derived.Test.YtcipdimogodndaaDoorZp5
namespace Go.Slip
theorem byteBits_succ (c : Nat) {j : Nat} (h : j < 8) : (byteBits c).take (j + 1) = (byteBits c).take j ++ [c / (128 / 2 ^ j) % 2 == 1] := by
  match j, h with
  | 0, _ => rfl
  | 1, _ => rfl
  | 2, _ => rfl
  | 3, _ => rfl
  | 4, _ => rfl
  | 5, _ => rfl
  | 6, _ => rfl
  | 7, _ => rfl
theorem pow128 {k j : Nat} (h : k = 128 / 2 ^ j) (hj : j ≤ 8) : k = 0 ↔ j = 8 := by
  subst h
  match j, hj with
  | 0, _ => decide
  | 1, _ => decide
  | 2, _ => decide
  | 3, _ => decide
  | 4, _ => decide
  | 5, _ => decide
  | 6, _ => decide
  | 7, _ => decide
  | 8, _ => decide
theorem le128 {k j : Nat} (h : k = 128 / 2 ^ j) : k ≤ 128 := by rw [h]; exact Nat.div_le_self _ _
theorem bitsB_append : ∀ (x y : List Nat), bitsB (x ++ y) = bitsB x ++ bitsB y
  | [], _ => rfl
  | c :: r, y => by show byteBits c ++ bitsB (r ++ y) = _; rw [bitsB_append r y]; simp [bitsB]
theorem bitsB_succ (L : List Nat) {i : Nat} (h : i < L.length) : bitsB (L.take (i + 1)) = bitsB (L.take i) ++ (byteBits (dg L i)).take 8 := by
  rw [← List.take_append_getElem h, bitsB_append, dg_of_lt h]
  congr 1
end Go.Slip
namespace Go.Proofs.YtcipdimogodndaaDoor
open Go.RowKit Go.Slip

def GBs (w : World) (bs : List Bool) (en : Ending) (w' : World) : Prop :=
  ∃ p c, en = .returned (.slice p bs.length c) ∧ OwnV w' w.heap.size 4 p c (bs.map Value.bool) ∧ Below w.heap.size w w'

set_option maxRecDepth 100000 in
theorem refBitsOf_any (n : Int) (s : ByteArray) (w : World) (hn : IsFm n) (hs : s.size = (fmt n).size) :
    Calls Tryd.prog 60 #[.int .i64 n, .string s] w (GBs w (bitsB (ordL (fmt n).ord (bytesOf s)))) := by
  have G := good_fm hn
  have z1 := G.sz
  have HP := fun i W h => Lib.hid (refPlace_any n i W hn h)
  generalize fmt n = f at *
  have hl0 : (bytesOf s).length = f.size := by rw [bytesOf_length, hs]
  have hlL : (ordL f.ord (bytesOf s)).length = f.size := by rw [ordL_len, hl0]
  have hbL := ordL_bytes (o := f.ord) (xs := bytesOf s) (fun _ => by omega) (bytesOf_lt s)
  have hdg : ∀ i, i < f.size → dg (bytesOf s) (plc f.ord f.size i) = dg (ordL f.ord (bytesOf s)) i := fun i hi => by rw [dg_ordL (by omega), hl0]
  have hpl : ∀ i, i < f.size → plc f.ord f.size i < s.size := fun i hi => by rw [hs]; exact plc_lt (fun _ => by omega) hi
  generalize ordL f.ord (bytesOf s) = L at *
  have hsucc := fun i (h : i < f.size) => bitsB_succ L (i := i) (by omega)
  have hdb := dg_bd hbL
  have hlen : ∀ i, i ≤ f.size → (bitsB (L.take i)).length = 8 * i := fun i hi => by rw [bitsB_len, List.length_take]; omega
  have hall : L.take f.size = L := List.take_of_length_le (by omega)
  clear hbL hl0
  refine calls_of_wp Tryd.func60 rfl ?_
  refine sx_frame (a' := ⟨((.int .i64 n) :: (.string s) :: us 32 []).toArray, []⟩) (by kernel_rfl) ?_
  refine yq ?_
  refine yq ?_
  refine wp_seq ?_
  refine yq ?_
  refine wp_block ?_
  refine sx_frame (a' := ⟨((.int .i64 n) :: (.string s) :: us 2 ((.slice none 0 0) :: (.slice none 0 0) :: (.int .i64 0) :: us 27 [])).toArray, []⟩) (by kernel_rfl) ?_
  refine sx_loop2 (fun (gk : Nat) U0 a' w' => ∃ (i : Nat) (p5 : Option Addr) (c5 : Nat) (n5 : Nat), a' = ⟨((.int .i64 n) :: (.string s) :: us 2 ((.slice none 0 0) :: (.slice p5 n5 c5) :: (.int .i64 ((i : Nat) : Int)) :: uvs U0 7 26 (undef :: []))).toArray, []⟩ ∧ (OwnV w' w.heap.size 4 p5 c5 ((bitsB (L.take i)).map Value.bool)) ∧ Below w.heap.size w w' ∧ (n5 = 8 * i) ∧ (gk + i = f.size)) f.size ?_ (fun Gx hGx => ?_)
  · skip
    exact ⟨0, none, 0, 0, by kernel_rfl, (by rw [List.take_zero]; exact OwnV.nil _ _ _), Below.refl _ _, (by omega), (by omega)⟩
  rintro gk0 U0 _ V1 ⟨i, p5, c5, n5, rfl, o5, hbV1, hn5, hgk⟩
  refine hGx _ _ _ ?_
  clear hGx Gx
  have hzV1 := hbV1.size
  refine wp_seq ?_
  refine ye ?_
  rcases Bool.eq_false_or_eq_true (decide (((i : Nat) : Int) < ((s.size : Nat) : Int))) with f12 | f12
  · skip
    refine yb 3 rfl 12 (decide (((i : Nat) : Int) < ((s.size : Nat) : Int))) (true) (f12) ?_
    refine yzt 0 ?_
    refine yT ?_
    refine wp_skip ?_
    refine sx_then ?_
    refine wp_seq ?_
    refine wp_block ?_
    refine ye ?_
    refine yc 3 rfl 18 ((HP i V1 (by have := of_decide_eq_true f12; omega)).out) (fun Gx hGx => ?_)
    rintro eV2 V2 ⟨rfl, hbV2⟩
    have hzV2 := hbV2.size
    refine ⟨_, rfl, hGx _ _ ?_⟩
    clear hGx Gx
    refine yv 0 rfl 19 (.int .u8 ((dg L i : Nat) : Int)) ?_ (exec_six uStr (m := plc f.ord f.size i) (by kernel_rfl) (by kernel_rfl) (hpl i (by have := of_decide_eq_true f12; omega)) (by rw [hdg i (by have := of_decide_eq_true f12; omega)]))
    refine ya 0 rfl 20 .i64 ((dg L i : Nat) : Int) (((dg L i : Nat) : Int)) ((IntWalk.i64_in _ (by have := hdb i; omega))) ?_
    refine yzt 1 ?_
    refine yq ?_
    refine wp_block ?_
    refine sx_frame (a' := ⟨((.int .i64 n) :: (.string s) :: us 2 ((.slice none 0 0) :: (.slice p5 n5 c5) :: (.int .i64 ((i : Nat) : Int)) :: (.int .i64 ((dg L i : Nat) : Int)) :: (.int .i64 128) :: (.int .i64 ((i : Nat) : Int)) :: (.string s) :: (.int .i64 ((s.size : Nat) : Int)) :: (.bool true) :: uvs U0 13 2 ((.string s) :: (.int .i64 n) :: (.int .i64 ((i : Nat) : Int)) :: (.int .i64 ((plc f.ord f.size i : Nat) : Int)) :: (.int .u8 ((dg L i : Nat) : Int)) :: (.int .i64 ((dg L i : Nat) : Int)) :: uvs U0 21 12 (undef :: [])))).toArray, []⟩) (by kernel_rfl) ?_
    refine sx_loop2 (fun (gk : Nat) U1 a' w' => ∃ (j : Nat) (k : Nat) (p7 : Option Addr) (c7 : Nat) (n7 : Nat), a' = ⟨((.int .i64 n) :: (.string s) :: us 2 ((.slice none 0 0) :: (.slice p7 n7 c7) :: (.int .i64 ((i : Nat) : Int)) :: (.int .i64 ((dg L i : Nat) : Int)) :: (.int .i64 ((k : Nat) : Int)) :: (.int .i64 ((i : Nat) : Int)) :: (.string s) :: (.int .i64 ((s.size : Nat) : Int)) :: (.bool true) :: uvs U0 13 2 ((.string s) :: (.int .i64 n) :: (.int .i64 ((i : Nat) : Int)) :: (.int .i64 ((plc f.ord f.size i : Nat) : Int)) :: (.int .u8 ((dg L i : Nat) : Int)) :: (.int .i64 ((dg L i : Nat) : Int)) :: uvs U1 21 12 (undef :: [])))).toArray, []⟩ ∧ (OwnV w' w.heap.size 4 p7 c7 ((bitsB (L.take i) ++ (byteBits (dg L i)).take j).map Value.bool)) ∧ Below w.heap.size w w' ∧ (n7 = 8 * i + j) ∧ (k = 128 / 2 ^ j) ∧ (gk + j = 8)) 8 ?_ (fun Gx hGx => ?_)
    · skip
      replace o5 := (o5.past hbV2)
      exact ⟨0, 128, p5, c5, n5, by kernel_rfl, (by rw [List.take_zero, List.append_nil]; exact o5), (bthru hbV1 hbV2), hn5, (by decide), (by omega)⟩
    rintro gk1 U1 _ V3 ⟨j, k, p7, c7, n7, rfl, o7, hbV3, hn7, hk, hgk1⟩
    refine hGx _ _ _ ?_
    clear hGx Gx
    have hzV3 := hbV3.size
    refine wp_seq ?_
    have hi8 : (bitsB (L.take i)).length = 8 * i := hlen i (by have := of_decide_eq_true f12; omega)
    have hk0 : k = 0 ↔ j = 8 := pow128 hk (by omega)
    refine ye ?_
    rcases Bool.eq_false_or_eq_true (decide (((k : Nat) : Int) > 0)) with f22 | f22
    · skip
      refine yb 1 rfl 22 (decide (((k : Nat) : Int) > 0)) (true) (f22) ?_
      refine yzt 0 ?_
      refine yT ?_
      refine wp_skip ?_
      refine sx_then ?_
      refine wp_seq ?_
      refine wp_block ?_
      refine sx_region ?_
      refine yv 3 rfl 28 (.int .i64 ((dg L i / k : Nat) : Int)) ?_ (exec_quo (X := (((dg L i : Nat) : Int))) (Y := ((k : Nat) : Int)) ((dg L i / k : Nat) : Int) (by kernel_rfl) (by kernel_rfl) ((by have := of_decide_eq_true f22; omega)) ((by rw [show ((dg L i : Nat) : Int).tdiv ((k : Nat) : Int) = ((dg L i / k : Nat) : Int) from (Int.ofNat_tdiv _ _).symm]; have h1 := hdb i; have h2 := Nat.div_le_self (dg L i) k; generalize dg L i / k = qq at *; exact IntWalk.i64_in _ (by omega))))
      refine yv 0 rfl 29 (.int .i64 ((dg L i / k % 2 : Nat) : Int)) ?_ (exec_rem (X := (((dg L i / k : Nat) : Int))) (Y := (2)) ((dg L i / k % 2 : Nat) : Int) (by kernel_rfl) (by kernel_rfl) ((show (2 : Int) ≠ 0 by omega)) ((by exact (Int.ofNat_tmod _ 2).symm)))
      refine yb 0 rfl 30 (((dg L i / k % 2 : Nat) : Int) == 1) ((dg L i / k % 2 == 1)) ((by exact nat_beq_one _)) ?_
      refine ywv 0 rfl 31 (.slice (some ⟨V3.heap.size, 0, none⟩) 1 1) #[.bool (dg L i / k % 2 == 1)] 4 (fun V4 hbV4 hzV4 b31 => ?_)
      replace o7 := (o7.past hbV4)
      refine sapv 32 tvBools w.heap.size p7 n7 c7 _ o7 (by simp [hi8, byteBits_len]; omega) (some ⟨V3.heap.size, 0, none⟩) 1 1 [Value.bool (dg L i / k % 2 == 1)] (rdv_lit b31) rfl rfl (by simp [hi8, byteBits_len]; omega) (by omega) (8 * i + (j + 1)) (by simp [hi8, byteBits_len]; have := of_decide_eq_true f22; omega) (fun p32 c32 V5 o32 hjV5 => ?_)
      have hbV5 : Below w.heap.size w V5 := (bthru hbV3 hbV4).trans (hjV5.mono (by omega))
      have hzV5 := hbV5.size
      refine yz 1 ?_
      refine sx_inblock ?_
      refine sx_then ?_
      refine sx_region ?_
      refine yv 1 rfl 24 (.int .i64 ((k / 2 : Nat) : Int)) ?_ (exec_quo (X := ((k : Nat) : Int)) (Y := (2)) ((k / 2 : Nat) : Int) (by kernel_rfl) (by kernel_rfl) ((show (2 : Int) ≠ 0 by omega)) ((by rw [show ((k : Nat) : Int).tdiv 2 = ((k / 2 : Nat) : Int) from (Int.ofNat_tdiv k 2).symm]; exact IntWalk.i64_in _ (by have := le128 hk; omega))))
      refine yz 1 ?_
      refine sx_then ?_
      refine ⟨gk1 - 1, (by have := of_decide_eq_true f22; omega), ?_⟩
      exact ⟨j + 1, k / 2, p32, c32, 8 * i + (j + 1), by kernel_rfl, (by rw [byteBits_succ _ (show j < 8 by have := of_decide_eq_true f22; omega), ← hk, ← List.append_assoc, List.map_append (l₁ := _ ++ _)]; exact o32), hbV5, rfl, (by rw [hk, Nat.div_div_eq_div_mul, Nat.pow_succ]), (by have := of_decide_eq_true f22; omega)⟩
    refine yb 1 rfl 22 (decide (((k : Nat) : Int) > 0)) (false) (f22) ?_
    refine yzt 0 ?_
    refine yF ?_
    refine wp_exit ?_
    repeat (with_reducible refine sx_thenexit ?_)
    refine sx_exit (id := 2) ?_
    refine sx_inblock ?_
    refine sx_then ?_
    refine sx_region ?_
    refine ya 1 rfl 14 .i64 (((i : Nat) : Int) + 1) (((i + 1 : Nat) : Int)) ((by rw [show (((i : Nat) : Int) + 1) = ((i + 1 : Nat) : Int) by omega]; exact IntWalk.i64_in _ (by have := of_decide_eq_true f12; omega))) ?_
    refine yz 1 ?_
    refine sx_then ?_
    refine ⟨gk0 - 1, (by have := of_decide_eq_true f12; omega), ?_⟩
    exact ⟨i + 1, p7, c7, n7, by kernel_rfl, (by rw [hsucc i (by have := of_decide_eq_true f12; omega), ← hk0.1 (by have := of_decide_eq_false f22; omega)]; exact o7), hbV3, (by have := hk0.1 (by have := of_decide_eq_false f22; omega); omega), (by have := of_decide_eq_true f12; omega)⟩
  refine yb 3 rfl 12 (decide (((i : Nat) : Int) < ((s.size : Nat) : Int))) (false) (f12) ?_
  refine yzt 0 ?_
  refine yF ?_
  refine wp_exit ?_
  repeat (with_reducible refine sx_thenexit ?_)
  refine sx_exit (id := 0) ?_
  refine sx_then ?_
  refine yq ?_
  refine wp_ret ?_
  repeat (first | with_reducible refine sx_thenret ?_ | with_reducible refine sx_blockret ?_)
  refine yret (.slice p5 n5 c5) (res1 Tryd.results60 rvt) ?_
  have hi : i = f.size := by have := of_decide_eq_false f12; omega
  have hL8 : (bitsB L).length = n5 := by rw [← hall, hlen _ (Nat.le_refl _)]; omega
  rw [hi, hall] at o5
  exact ⟨p5, c5, by rw [hL8], o5, hbV1⟩
end Go.Proofs.YtcipdimogodndaaDoor

namespace Go.Slip
theorem vb_take_succ' (bs : List Bool) {i : Nat} (h : i < bs.length) : vb (bs.take i) * 2 + (bs.getD i false).toNat = vb (bs.take (i + 1)) := by
  rw [vb_take_succ bs i h, Nat.mul_comm, List.getD_eq_getElem?_getD, List.getElem?_eq_getElem h]
  rfl
theorem map_getD (bs : List Bool) {i : Nat} (h : i < bs.length) : (bs.map Value.bool)[i]? = some (.bool (bs.getD i false)) := by
  rw [List.getElem?_map, List.getD_eq_getElem?_getD, List.getElem?_eq_getElem h]
  rfl
end Go.Slip
namespace Go.Proofs.YtcipdimogodndaaDoor
open Go.RowKit Go.Slip

theorem dig16_two : dig B16 2 = [2] := by rw [dig_pos B16_two (by omega), show 2 / B16 = 0 by unfold B16; omega, dig_zero, show 2 % B16 = 2 by unfold B16; omega]
theorem rf_two {w : World} {b : Nat} {t : TypeId} (h : Bt w b t #[.int .i64 2]) : Rf w b (some ⟨b, 0, none⟩) 1 (dig B16 2) := by rw [dig16_two]; exact rf_lit (k := 2) h
theorem len16_two : 1 = (dig B16 2).length := by rw [dig16_two]; rfl
theorem dig16_le_pow {x n k : Nat} (h : x < 2 ^ n) (hk : n ≤ 16 * k) : (dig B16 x).length ≤ k := by
  rw [dig_len_le B16_two]
  unfold B16
  rw [show (65536 : Nat) = 2 ^ 16 from rfl, ← Nat.pow_mul]
  exact Nat.lt_of_lt_of_le h (Nat.pow_le_pow_right (by omega) hk)

set_option maxRecDepth 100000 in
theorem refValue_any (bs : List Bool) (p : Option Addr) (n c : Nat) (w : World) (hp : RdV w p (bs.map Value.bool)) (hn : n = bs.length) (hl : bs.length ≤ 200) :
    Calls Tryd.prog 61 #[.slice p n c] w (GRf w (dig B16 (vb bs))) := by
  subst hn
  have hd : ∀ i, (dig B16 (vb (bs.take i))).length ≤ 100 := fun i => dig16_le_pow (n := 200) (Nat.lt_of_lt_of_le (vb_lt _) (Nat.pow_le_pow_right (by omega) (by rw [List.length_take]; omega))) (by omega)
  have hd2 : ∀ i, (dig B16 (vb (bs.take i) * 2)).length ≤ 101 := fun i => dig16_le_pow (n := 201) (by have h := vb_lt (bs.take i); have h2 : 2 ^ (bs.take i).length ≤ 2 ^ 200 := Nat.pow_le_pow_right (by omega) (by rw [List.length_take]; omega); rw [show 201 = 200 + 1 from rfl, Nat.pow_succ]; generalize 2 ^ 200 = T at *; omega) (by omega)
  have hsucc := fun i h => vb_take_succ' bs (i := i) h
  have hall : bs.take bs.length = bs := List.take_length
  have hget := fun i h => map_getD bs (i := i) h
  have hln : (bs.map Value.bool).length = bs.length := List.length_map ..
  refine calls_of_wp Tryd.func61 rfl ?_
  refine sx_frame (a' := ⟨((.slice p bs.length c) :: us 21 []).toArray, []⟩) (by kernel_rfl) ?_
  refine yq ?_
  refine yq ?_
  refine wp_seq ?_
  refine yq ?_
  refine wp_block ?_
  refine sx_frame (a' := ⟨((.slice p bs.length c) :: undef :: (.slice none 0 0) :: (.slice none 0 0) :: (.int .i64 0) :: us 17 []).toArray, []⟩) (by kernel_rfl) ?_
  refine sx_loop2 (fun (gk : Nat) U0 a' w' => ∃ (i : Nat) (p3 : Option Addr) (c3 : Nat) (n3 : Nat), a' = ⟨((.slice p bs.length c) :: undef :: (.slice none 0 0) :: (.slice p3 n3 c3) :: (.int .i64 ((i : Nat) : Int)) :: uvs U0 5 16 (undef :: [])).toArray, []⟩ ∧ (Rf w' w.heap.size p3 c3 (dig B16 (vb (bs.take i)))) ∧ Below w.heap.size w w' ∧ (n3 = (dig B16 (vb (bs.take i))).length) ∧ (gk + i = bs.length)) bs.length ?_ (fun Gx hGx => ?_)
  · skip
    exact ⟨0, none, 0, 0, by kernel_rfl, (by rw [List.take_zero, vb_nil, dig_zero]; exact rf_nil _ _ _), Below.refl _ _, (by rw [List.take_zero, vb_nil, dig_zero]; rfl), (by omega)⟩
  rintro gk0 U0 _ V1 ⟨i, p3, c3, n3, rfl, o3, hbV1, hn3, hgk⟩
  refine hGx _ _ _ ?_
  clear hGx Gx
  have hzV1 := hbV1.size
  have lo3 := fun h => o3.lt h
  refine wp_seq ?_
  refine ye ?_
  rcases Bool.eq_false_or_eq_true (decide (((i : Nat) : Int) < ((bs.length : Nat) : Int))) with f8 | f8
  · skip
    refine yb 3 rfl 8 (decide (((i : Nat) : Int) < ((bs.length : Nat) : Int))) (true) (f8) ?_
    refine yzt 0 ?_
    refine yT ?_
    refine wp_skip ?_
    refine sx_then ?_
    refine wp_seq ?_
    refine wp_block ?_
    refine ye ?_
    refine ywv 1 rfl 12 (.slice (some ⟨V1.heap.size, 0, none⟩) 1 1) #[.int .i64 2] 3 (fun V2 hbV2 hzV2 b12 => ?_)
    replace o3 := (o3.past hbV2)
    refine yc 0 rfl 13 (rtimes p3 (some ⟨V1.heap.size, 0, none⟩) n3 1 c3 1 (vb (bs.take i)) 2 (vb (bs.take i) * 2) V2 o3.rd (rf_two b12).rd hn3 len16_two (by have := hd i; omega) (by rw [dig16_two]; decide) rfl) (fun Gx hGx => ?_)
    rintro eV3 V3 ⟨p13, c13, rfl, o13, hbV3⟩
    have hzV3 := hbV3.size
    have lo13 := fun h => o13.lt h
    refine ⟨_, rfl, hGx _ _ ?_⟩
    clear hGx Gx
    refine yzt 1 ?_
    refine ye ?_
    replace hp := (hp.past (bthru (bthru hbV1 hbV2) hbV3))
    refine yv 2 rfl 16 (.pointer (some (at_ p i))) ?_ (exec_ixv (p := p) (n := bs.length) (c := c) (m := i) tvBools (by have h := hp.solid; rw [hln] at h; exact h) (by kernel_rfl) (by kernel_rfl) (by have := of_decide_eq_true f8; omega))
    rcases Bool.eq_false_or_eq_true (bs.getD i false) with f17 | f17
    · skip
      refine yv 0 rfl 17 (.bool true) ?_ ((show _ = Result.ok (Next.value (.bool (bs.getD i false))) _ from (exec_ldv hp ldBool (m := i) (by kernel_rfl) (hget i (by have := of_decide_eq_true f8; omega)))).trans (congrArg (fun z => Result.ok (Next.value (.bool z)) _) (show (bs.getD i false) = true from f17)))
      refine yzt 0 ?_
      refine yT ?_
      refine sx_region ?_
      refine ywv 1 rfl 19 (.slice (some ⟨V3.heap.size, 0, none⟩) 1 1) #[.int .i64 1] 3 (fun V4 hbV4 hzV4 b19 => ?_)
      replace o13 := (o13.past hbV4)
      refine yc 0 rfl 20 (rplus p13 (some ⟨V3.heap.size, 0, none⟩) _ 1 c13 1 (vb (bs.take i) * 2) 1 (vb (bs.take (i + 1))) V4 o13.rd (rf_one b19).rd rfl len16_one (by have := hd2 i; omega) (by rw [dig16_one]; decide) (by rw [← hsucc i (by have := of_decide_eq_true f8; omega), f17, Bool.toNat_true])) (fun Gx hGx => ?_)
      rintro eV5 V5 ⟨p20, c20, rfl, o20, hbV5⟩
      have hzV5 := hbV5.size
      have lo20 := fun h => o20.lt h
      refine ⟨_, rfl, hGx _ _ ?_⟩
      clear hGx Gx
      refine yz 1 ?_
      refine sx_inblock ?_
      refine sx_then ?_
      refine sx_region ?_
      refine ya 1 rfl 10 .i64 (((i : Nat) : Int) + 1) (((i + 1 : Nat) : Int)) ((by rw [show (((i : Nat) : Int) + 1) = ((i + 1 : Nat) : Int) by omega]; exact IntWalk.i64_in _ (by have := of_decide_eq_true f8; omega))) ?_
      refine yz 1 ?_
      refine sx_then ?_
      refine ⟨gk0 - 1, (by have := of_decide_eq_true f8; omega), ?_⟩
      exact ⟨i + 1, p20, c20, (dig B16 (vb (bs.take (i + 1)))).length, by kernel_rfl, o20.mono (by omega), (bthru (bthru (bthru (bthru hbV1 hbV2) hbV3) hbV4) hbV5), rfl, (by have := of_decide_eq_true f8; omega)⟩
    refine yv 0 rfl 17 (.bool false) ?_ ((show _ = Result.ok (Next.value (.bool (bs.getD i false))) _ from (exec_ldv hp ldBool (m := i) (by kernel_rfl) (hget i (by have := of_decide_eq_true f8; omega)))).trans (congrArg (fun z => Result.ok (Next.value (.bool z)) _) (show (bs.getD i false) = false from f17)))
    refine yzt 0 ?_
    refine yF ?_
    refine wp_skip ?_
    refine sx_inblock ?_
    refine sx_then ?_
    refine sx_region ?_
    refine ya 1 rfl 10 .i64 (((i : Nat) : Int) + 1) (((i + 1 : Nat) : Int)) ((by rw [show (((i : Nat) : Int) + 1) = ((i + 1 : Nat) : Int) by omega]; exact IntWalk.i64_in _ (by have := of_decide_eq_true f8; omega))) ?_
    refine yz 1 ?_
    refine sx_then ?_
    refine ⟨gk0 - 1, (by have := of_decide_eq_true f8; omega), ?_⟩
    exact ⟨i + 1, p13, c13, (dig B16 (vb (bs.take i) * 2)).length, by kernel_rfl, (by rw [← hsucc i (by have := of_decide_eq_true f8; omega), f17, Bool.toNat_false, Nat.add_zero]; exact o13.mono (by omega)), (bthru (bthru hbV1 hbV2) hbV3), (by rw [← hsucc i (by have := of_decide_eq_true f8; omega), f17, Bool.toNat_false, Nat.add_zero]), (by have := of_decide_eq_true f8; omega)⟩
  refine yb 3 rfl 8 (decide (((i : Nat) : Int) < ((bs.length : Nat) : Int))) (false) (f8) ?_
  refine yzt 0 ?_
  refine yF ?_
  refine wp_exit ?_
  repeat (with_reducible refine sx_thenexit ?_)
  refine sx_exit (id := 0) ?_
  refine sx_then ?_
  refine yq ?_
  refine wp_ret ?_
  repeat (first | with_reducible refine sx_thenret ?_ | with_reducible refine sx_blockret ?_)
  refine yret (.slice p3 n3 c3) (res1 Tryd.results61 rvt) ?_
  have hi : i = bs.length := by have := of_decide_eq_false f8; omega
  rw [hi, hall] at o3 hn3
  exact ⟨p3, c3, by rw [hn3], o3.mono (by omega), hbV1⟩

def GivesVr (w : World) (v : Vr) (en : Ending) (w' : World) : Prop :=
  ∃ p c, en = .returned (.agg #[.int .i64 ((v.cls : Nat) : Int), .bool v.neg, .bool v.x.neg, .slice p (dig B16 v.x.m).length c, .int .i64 v.x.e]) ∧ Rf w' w.heap.size p c (dig B16 v.x.m) ∧ Below w.heap.size w w'
theorem givesVr_none {w w' : World} {k : Nat} {n : Bool} {en : Ending} (h : en = .returned (.agg #[.int .i64 ((k : Nat) : Int), .bool n, .bool false, .slice none 0 0, .int .i64 0])) (hb : Below w.heap.size w w') : GivesVr w ⟨k, n, ⟨false, 0, 0⟩⟩ en w' := by
  refine ⟨none, 0, ?_, ?_, hb⟩
  · rw [h, dig_zero]; rfl
  · rw [dig_zero]; exact rf_nil _ _ _

set_option maxRecDepth 100000 in
theorem refNumber_any (f : Fm) (g : Bool) (bg bf x : Nat) (p : Option Addr) (c b0 : Nat) (pw : Int) (w : World) (hp : Rf w b0 p c (dig B16 x)) (hl : (dig B16 x).length ≤ 1000) (hpw : -100000 ≤ pw ∧ pw ≤ 100000)
    (Bg : Bt w bg 4 #[.bool g]) (Bf : Bt w bf 79 #[.int .i64 ((f.size : Nat) : Int), .int .i64 ((f.E : Nat) : Int), .int .i64 ((f.F : Nat) : Int), .int .i64 f.g.rad, .int .i64 f.g.digs, .int .i64 f.g.lo, .int .i64 f.g.hi, .bool f.g.grad, .int .i64 ((f.fam : Nat) : Int)]) :
    Calls Tryd.prog 63 #[.slice p (dig B16 x).length c, .int .i64 pw, .pointer (some ⟨bg, 0, none⟩), .pointer (some ⟨bf, 0, none⟩)] w (GivesVr w (f.vr g ⟨2, x, pw⟩)) := by
  have hx0 := dig_len_zero B16_two x
  have wp := wid_pos f.g
  have lg := Bg.lt
  have lf := Bf.lt
  have hmu := mul_bd (wd := wid f.g) (k := pw) (B := 100000) wp.2 hpw
  by_cases h0 : x = 0
  · have hv : f.vr g ⟨2, x, pw⟩ = ⟨1, g, ⟨false, 0, 0⟩⟩ := by unfold Fm.vr Dc.c; simp [h0]
    have hb0 : bare ⟨g, x, wid f.g * pw⟩ = ⟨false, 0, 0⟩ := by rw [h0]; rfl
    rw [hv]
    generalize hmw : (wid f.g : Int) * pw = mw at *
    have HMW := Lib.hid hmw
    clear hmw
    have hT4 : SxOne Tryd.prog 4 := sxOne_of (by kernel_rfl) (by kernel_rfl)
    have hT29 : SxAgg Tryd.prog 29 5 := sxAgg_of (by kernel_rfl) (by kernel_rfl)
    have hT32 : SxOne Tryd.prog 32 := sxOne_of (by kernel_rfl) (by kernel_rfl)
    have hT34 : SxAgg Tryd.prog 34 3 := sxAgg_of (by kernel_rfl) (by kernel_rfl)
    have hT61 : SxAgg Tryd.prog 61 5 := sxAgg_of (by kernel_rfl) (by kernel_rfl)
    refine calls_of_wp Tryd.func63 rfl ?_
    refine sx_frame (a' := ⟨((.slice p (dig B16 x).length c) :: (.int .i64 pw) :: (.pointer (some ⟨bg, 0, none⟩)) :: (.pointer (some ⟨bf, 0, none⟩)) :: us 22 []).toArray, []⟩) (by kernel_rfl) ?_
    refine ye ?_
    refine yw 0 rfl 6 #[.int .i64 0, .bool false, .bool false, .slice none 0 0, .int .i64 0] 61 (fun V1 hbV1 hzV1 b6 => ?_)
    refine yzt 0 ?_
    refine wp_seq ?_
    refine sx_cutg (R := fun a' w' => ∃ (kb7 : Nat) (p16 : Option Addr) (c16 : Nat), a' = ⟨((.slice p (dig B16 x).length c) :: (.int .i64 pw) :: (.pointer (some ⟨bg, 0, none⟩)) :: (.pointer (some ⟨bf, 0, none⟩)) :: us 2 ((.pointer (some ⟨w.heap.size, 0, none⟩)) :: (.pointer (some ⟨kb7, 0, none⟩)) :: (.bool g) :: (.slice p (dig B16 x).length c) :: (.pointer (some ⟨bf, 3, none⟩)) :: (.agg #[.int .i64 f.g.rad, .int .i64 f.g.digs, .int .i64 f.g.lo, .int .i64 f.g.hi, .bool f.g.grad]) :: (.int .i64 ((wid f.g : Nat) : Int)) :: (.int .i64 pw) :: (.int .i64 mw) :: (.agg #[.bool g, .slice p (dig B16 x).length c, .int .i64 mw]) :: (.agg #[.bool false, .slice p16 (dig B16 0).length c16, .int .i64 0]) :: us 9 [])).toArray, []⟩ ∧ Bt w' kb7 34 #[.bool false, .slice p16 (dig B16 0).length c16, .int .i64 0] ∧ Rf w' V1.heap.size p16 c16 (dig B16 0) ∧ Below V1.heap.size V1 w' ∧ V1.heap.size ≤ kb7) ?_ (fun Gx hGx => ?_)
    · skip
      replace Bg := (Bg.past hbV1)
      replace Bf := (Bf.past hbV1)
      obtain ⟨V2, hVV2, hbV2, hzV2⟩ := drew_of V1
      replace Bg := (Bg.past hbV2)
      replace Bf := (Bf.past hbV2)
      refine yd2 hVV2 ⟨Bg, Bf⟩ ?_
      clear hVV2
      refine ytl 0 rfl 8 (fun _ h => h.1) hT4 0 ⟨Bg, Bf⟩ ?_
      refine yt 8 [1, 2] rfl ⟨Bg, Bf⟩ ?_
      refine ytla 3 rfl 11 (fun _ h => h.2) hT29 3 ⟨Bg, Bf⟩ ?_
      refine yt 6 [5] rfl ⟨Bg, Bf⟩ ?_
      refine sxr [4, 9] ?_
      refine rd2 (fun Kx hKx => ?_) ?_
      · skip
        refine yck 12 (refWidth_any f.g V2) ?_
        rintro eV3 V3 ⟨rfl, hbV3⟩
        have hzV3 := hbV3.size
        refine ⟨_, rfl, ?_⟩
        replace Bg := (Bg.past hbV3)
        replace Bf := (Bf.past hbV3)
        refine hKx.out _ _ ⟨Bg, Bf⟩ ?_
        clear hKx Kx
        refine tk 6 14 (.int .i64 mw) ⟨Bg, Bf⟩ ?_ (hy := fun w' _ => ((show _ = Result.ok (Next.value (.int .i64 (IntKind.wrap .i64 (((wid f.g : Nat) : Int) * pw)))) _ by kernel_rfl).trans (congrArg (fun z => Result.ok (Next.value (.int .i64 z)) _) ((by rw [HMW.out]; exact IntWalk.i64_in _ (by omega))))))
        refine yt 3 [7] rfl ⟨Bg, Bf⟩ ?_
        refine sxr [8, 9] ?_
        refine rd2 (fun Kx hKx => ?_) ?_
        · skip
          replace hp := (hp.past (bthru (bthru hbV1 hbV2) hbV3))
          refine yck 16 (rbared g p _ c mw x ⟨false, 0, 0⟩ V3 hp.rd rfl (by omega) (by omega) hb0) ?_
          rintro eV4 V4 ⟨p16, c16, rfl, o16, hbV4⟩
          have hzV4 := hbV4.size
          have lo16 := fun h => o16.lt h
          refine ⟨_, rfl, ?_⟩
          replace Bg := (Bg.past hbV4)
          replace Bf := (Bf.past hbV4)
          refine hKx.out _ _ ⟨Bg, Bf⟩ ?_
          clear hKx Kx
          refine sxr [9] ?_
          refine rd1 (fun Kx hKx => ?_)
          refine snk 7 #[.bool false, .slice none 0 0, .int .i64 0] 34 (fun V5 hbV5 hzV5 b7 => ?_)
          replace Bg := (Bg.past hbV5)
          replace Bf := (Bf.past hbV5)
          refine hKx.out _ _ ⟨Bg, Bf⟩ ?_
          clear hKx Kx
          refine sxr [10] ?_
          refine rd1 (fun Kx hKx => ?_)
          refine ssk none b7 hT34 0 #[.bool false, .slice p16 (dig B16 0).length c16, .int .i64 0] #[.bool false, .slice p16 (dig B16 0).length c16, .int .i64 0] ?_
          have boV6 := b7
          clear b7
          intro V6 hOV6 b7
          have hzV6 := hOV6.size
          replace Bg := (Bg.only hOV6 (by omega))
          replace Bf := (Bf.only hOV6 (by omega))
          refine hKx.out _ _ ⟨Bg, Bf⟩ ?_
          clear hKx Kx
          refine sx_done (by kernel_rfl) ?_
          replace o16 := (o16.past (hbV5.trans (hOV6.below (by omega))))
          exact ⟨rfl, V4.heap.size, p16, c16, by kernel_rfl, b7, (o16.mono (by omega)), ((bthru (bthru (bthru hbV2 hbV3) hbV4) hbV5).trans (hOV6.below (by omega))), by omega⟩
        refine rd1 (fun Kx hKx => ?_)
        refine snk 7 #[.bool false, .slice none 0 0, .int .i64 0] 34 (fun V4 hbV4 hzV4 b7 => ?_)
        replace Bg := (Bg.past hbV4)
        replace Bf := (Bf.past hbV4)
        refine hKx.out _ _ ⟨Bg, Bf⟩ ?_
        clear hKx Kx
        refine sxr [8] ?_
        refine rd1 (fun Kx hKx => ?_)
        replace hp := (hp.past (bthru (bthru (bthru hbV1 hbV2) hbV3) hbV4))
        refine yck 16 (rbared g p _ c mw x ⟨false, 0, 0⟩ V4 hp.rd rfl (by omega) (by omega) hb0) ?_
        rintro eV5 V5 ⟨p16, c16, rfl, o16, hbV5⟩
        have hzV5 := hbV5.size
        have lo16 := fun h => o16.lt h
        refine ⟨_, rfl, ?_⟩
        replace Bg := (Bg.past hbV5)
        replace Bf := (Bf.past hbV5)
        refine hKx.out _ _ ⟨Bg, Bf⟩ ?_
        clear hKx Kx
        refine sxr [10] ?_
        refine rd1 (fun Kx hKx => ?_)
        replace b7 := (b7.past hbV5)
        refine ssk none b7 hT34 0 #[.bool false, .slice p16 (dig B16 0).length c16, .int .i64 0] #[.bool false, .slice p16 (dig B16 0).length c16, .int .i64 0] ?_
        have boV6 := b7
        clear b7
        intro V6 hOV6 b7
        have hzV6 := hOV6.size
        replace Bg := (Bg.only hOV6 (by omega))
        replace Bf := (Bf.only hOV6 (by omega))
        refine hKx.out _ _ ⟨Bg, Bf⟩ ?_
        clear hKx Kx
        refine sx_done (by kernel_rfl) ?_
        replace o16 := (o16.only hOV6 (fun h => by have := lo16 h; omega))
        exact ⟨rfl, V3.heap.size, p16, c16, by kernel_rfl, b7, (o16.mono (by omega)), ((bthru (bthru (bthru hbV2 hbV3) hbV4) hbV5).trans (hOV6.below (by omega))), by omega⟩
      refine rd1 (fun Kx hKx => ?_)
      refine snk 7 #[.bool false, .slice none 0 0, .int .i64 0] 34 (fun V3 hbV3 hzV3 b7 => ?_)
      replace Bg := (Bg.past hbV3)
      replace Bf := (Bf.past hbV3)
      refine hKx.out _ _ ⟨Bg, Bf⟩ ?_
      clear hKx Kx
      refine sxr [4] ?_
      refine rd1 (fun Kx hKx => ?_)
      refine yck 12 (refWidth_any f.g V3) ?_
      rintro eV4 V4 ⟨rfl, hbV4⟩
      have hzV4 := hbV4.size
      refine ⟨_, rfl, ?_⟩
      replace Bg := (Bg.past hbV4)
      replace Bf := (Bf.past hbV4)
      refine hKx.out _ _ ⟨Bg, Bf⟩ ?_
      clear hKx Kx
      refine tk 6 14 (.int .i64 mw) ⟨Bg, Bf⟩ ?_ (hy := fun w' _ => ((show _ = Result.ok (Next.value (.int .i64 (IntKind.wrap .i64 (((wid f.g : Nat) : Int) * pw)))) _ by kernel_rfl).trans (congrArg (fun z => Result.ok (Next.value (.int .i64 z)) _) ((by rw [HMW.out]; exact IntWalk.i64_in _ (by omega))))))
      refine yt 2 [7] rfl ⟨Bg, Bf⟩ ?_
      refine sxr [8] ?_
      refine rd1 (fun Kx hKx => ?_)
      replace hp := (hp.past (bthru (bthru (bthru hbV1 hbV2) hbV3) hbV4))
      refine yck 16 (rbared g p _ c mw x ⟨false, 0, 0⟩ V4 hp.rd rfl (by omega) (by omega) hb0) ?_
      rintro eV5 V5 ⟨p16, c16, rfl, o16, hbV5⟩
      have hzV5 := hbV5.size
      have lo16 := fun h => o16.lt h
      refine ⟨_, rfl, ?_⟩
      replace Bg := (Bg.past hbV5)
      replace Bf := (Bf.past hbV5)
      refine hKx.out _ _ ⟨Bg, Bf⟩ ?_
      clear hKx Kx
      refine sxr [10] ?_
      refine rd1 (fun Kx hKx => ?_)
      replace b7 := (b7.past (bthru hbV4 hbV5))
      refine ssk none b7 hT34 0 #[.bool false, .slice p16 (dig B16 0).length c16, .int .i64 0] #[.bool false, .slice p16 (dig B16 0).length c16, .int .i64 0] ?_
      have boV6 := b7
      clear b7
      intro V6 hOV6 b7
      have hzV6 := hOV6.size
      replace Bg := (Bg.only hOV6 (by omega))
      replace Bf := (Bf.only hOV6 (by omega))
      refine hKx.out _ _ ⟨Bg, Bf⟩ ?_
      clear hKx Kx
      refine sx_done (by kernel_rfl) ?_
      replace o16 := (o16.only hOV6 (fun h => by have := lo16 h; omega))
      exact ⟨rfl, V2.heap.size, p16, c16, by kernel_rfl, b7, (o16.mono (by omega)), ((bthru (bthru (bthru hbV2 hbV3) hbV4) hbV5).trans (hOV6.below (by omega))), by omega⟩
    rintro _ V2 ⟨kb7, p16, c16, rfl, b7, o16, hbV2, hkb7⟩
    refine hGx _ _ ?_
    clear hGx Gx
    have hzV2 := hbV2.size
    have hlb7 := b7.lt
    have lo16 := fun h => o16.lt h
    refine sx_then ?_
    refine wp_seq ?_
    refine ye ?_
    refine yl 1 rfl 18 b7 hT32 1 ?_
    refine yb 1 rfl 20 ((((dig B16 0).length : Nat) : Int) == 0) (true) (beq_iff_eq.2 (by rw [dig_zero]; rfl)) ?_
    refine yzt 0 ?_
    refine yT ?_
    refine ye ?_
    replace Bg := (Bg.past (bthru hbV1 hbV2))
    refine yl 0 rfl 21 Bg hT4 0 ?_
    replace b6 := (b6.past hbV2)
    have boV3 := b6
    refine ysw 1 rfl b6 hT61 #[.int .i64 1, .bool g, .bool false, .slice none 0 0, .int .i64 0] ?_
    clear b6
    intro V3 hOV3 b6
    have hzV3 := hOV3.size
    refine yzt 0 ?_
    refine wp_ret ?_
    repeat (first | with_reducible refine sx_thenret ?_ | with_reducible refine sx_blockret ?_)
    refine yret (.agg #[.int .i64 1, .bool g, .bool false, .slice none 0 0, .int .i64 0]) (res1 Tryd.results63 (rvr b6 hT61)) ?_
    exact givesVr_none rfl ((bthru hbV1 hbV2).trans (hOV3.below (by omega)))
  · have hv : f.vr g ⟨2, x, pw⟩ = ⟨2, g, bare ⟨g, x, wid f.g * pw⟩⟩ := by unfold Fm.vr Dc.c; simp [h0]
    have hne : (bare ⟨g, x, wid f.g * pw⟩ : Dv).m ≠ 0 := by
      unfold bare
      rw [if_neg h0]
      have := (tz_spec x (by omega)).2
      intro h
      simp only at h
      rw [h] at this
      simp at this
    rw [hv]
    generalize hmw : (wid f.g : Int) * pw = mw at *
    have HMW := Lib.hid hmw
    clear hmw
    generalize hd : bare ⟨g, x, mw⟩ = d at *
    have HD := Lib.hid hd
    clear hd
    have hd0 := dig_len_zero B16_two d.m
    have hT4 : SxOne Tryd.prog 4 := sxOne_of (by kernel_rfl) (by kernel_rfl)
    have hT29 : SxAgg Tryd.prog 29 5 := sxAgg_of (by kernel_rfl) (by kernel_rfl)
    have hT32 : SxOne Tryd.prog 32 := sxOne_of (by kernel_rfl) (by kernel_rfl)
    have hT34 : SxAgg Tryd.prog 34 3 := sxAgg_of (by kernel_rfl) (by kernel_rfl)
    have hT61 : SxAgg Tryd.prog 61 5 := sxAgg_of (by kernel_rfl) (by kernel_rfl)
    refine calls_of_wp Tryd.func63 rfl ?_
    refine sx_frame (a' := ⟨((.slice p (dig B16 x).length c) :: (.int .i64 pw) :: (.pointer (some ⟨bg, 0, none⟩)) :: (.pointer (some ⟨bf, 0, none⟩)) :: us 22 []).toArray, []⟩) (by kernel_rfl) ?_
    refine ye ?_
    refine yw 0 rfl 6 #[.int .i64 0, .bool false, .bool false, .slice none 0 0, .int .i64 0] 61 (fun V1 hbV1 hzV1 b6 => ?_)
    refine yzt 0 ?_
    refine wp_seq ?_
    refine sx_cutg (R := fun a' w' => ∃ (kb7 : Nat) (p16 : Option Addr) (c16 : Nat), a' = ⟨((.slice p (dig B16 x).length c) :: (.int .i64 pw) :: (.pointer (some ⟨bg, 0, none⟩)) :: (.pointer (some ⟨bf, 0, none⟩)) :: us 2 ((.pointer (some ⟨w.heap.size, 0, none⟩)) :: (.pointer (some ⟨kb7, 0, none⟩)) :: (.bool g) :: (.slice p (dig B16 x).length c) :: (.pointer (some ⟨bf, 3, none⟩)) :: (.agg #[.int .i64 f.g.rad, .int .i64 f.g.digs, .int .i64 f.g.lo, .int .i64 f.g.hi, .bool f.g.grad]) :: (.int .i64 ((wid f.g : Nat) : Int)) :: (.int .i64 pw) :: (.int .i64 mw) :: (.agg #[.bool g, .slice p (dig B16 x).length c, .int .i64 mw]) :: (.agg #[.bool d.neg, .slice p16 (dig B16 d.m).length c16, .int .i64 d.e]) :: us 9 [])).toArray, []⟩ ∧ Bt w' kb7 34 #[.bool d.neg, .slice p16 (dig B16 d.m).length c16, .int .i64 d.e] ∧ Rf w' V1.heap.size p16 c16 (dig B16 d.m) ∧ Below V1.heap.size V1 w' ∧ V1.heap.size ≤ kb7) ?_ (fun Gx hGx => ?_)
    · skip
      replace Bg := (Bg.past hbV1)
      replace Bf := (Bf.past hbV1)
      obtain ⟨V2, hVV2, hbV2, hzV2⟩ := drew_of V1
      replace Bg := (Bg.past hbV2)
      replace Bf := (Bf.past hbV2)
      refine yd2 hVV2 ⟨Bg, Bf⟩ ?_
      clear hVV2
      refine ytl 0 rfl 8 (fun _ h => h.1) hT4 0 ⟨Bg, Bf⟩ ?_
      refine yt 8 [1, 2] rfl ⟨Bg, Bf⟩ ?_
      refine ytla 3 rfl 11 (fun _ h => h.2) hT29 3 ⟨Bg, Bf⟩ ?_
      refine yt 6 [5] rfl ⟨Bg, Bf⟩ ?_
      refine sxr [4, 9] ?_
      refine rd2 (fun Kx hKx => ?_) ?_
      · skip
        refine yck 12 (refWidth_any f.g V2) ?_
        rintro eV3 V3 ⟨rfl, hbV3⟩
        have hzV3 := hbV3.size
        refine ⟨_, rfl, ?_⟩
        replace Bg := (Bg.past hbV3)
        replace Bf := (Bf.past hbV3)
        refine hKx.out _ _ ⟨Bg, Bf⟩ ?_
        clear hKx Kx
        refine tk 6 14 (.int .i64 mw) ⟨Bg, Bf⟩ ?_ (hy := fun w' _ => ((show _ = Result.ok (Next.value (.int .i64 (IntKind.wrap .i64 (((wid f.g : Nat) : Int) * pw)))) _ by kernel_rfl).trans (congrArg (fun z => Result.ok (Next.value (.int .i64 z)) _) ((by rw [HMW.out]; exact IntWalk.i64_in _ (by omega))))))
        refine yt 3 [7] rfl ⟨Bg, Bf⟩ ?_
        refine sxr [8, 9] ?_
        refine rd2 (fun Kx hKx => ?_) ?_
        · skip
          replace hp := (hp.past (bthru (bthru hbV1 hbV2) hbV3))
          refine yck 16 (rbared g p _ c mw x d V3 hp.rd rfl (by omega) (by omega) HD.out) ?_
          rintro eV4 V4 ⟨p16, c16, rfl, o16, hbV4⟩
          have hzV4 := hbV4.size
          have lo16 := fun h => o16.lt h
          refine ⟨_, rfl, ?_⟩
          replace Bg := (Bg.past hbV4)
          replace Bf := (Bf.past hbV4)
          refine hKx.out _ _ ⟨Bg, Bf⟩ ?_
          clear hKx Kx
          refine sxr [9] ?_
          refine rd1 (fun Kx hKx => ?_)
          refine snk 7 #[.bool false, .slice none 0 0, .int .i64 0] 34 (fun V5 hbV5 hzV5 b7 => ?_)
          replace Bg := (Bg.past hbV5)
          replace Bf := (Bf.past hbV5)
          refine hKx.out _ _ ⟨Bg, Bf⟩ ?_
          clear hKx Kx
          refine sxr [10] ?_
          refine rd1 (fun Kx hKx => ?_)
          refine ssk none b7 hT34 0 #[.bool d.neg, .slice p16 (dig B16 d.m).length c16, .int .i64 d.e] #[.bool d.neg, .slice p16 (dig B16 d.m).length c16, .int .i64 d.e] ?_
          have boV6 := b7
          clear b7
          intro V6 hOV6 b7
          have hzV6 := hOV6.size
          replace Bg := (Bg.only hOV6 (by omega))
          replace Bf := (Bf.only hOV6 (by omega))
          refine hKx.out _ _ ⟨Bg, Bf⟩ ?_
          clear hKx Kx
          refine sx_done (by kernel_rfl) ?_
          replace o16 := (o16.past (hbV5.trans (hOV6.below (by omega))))
          exact ⟨rfl, V4.heap.size, p16, c16, by kernel_rfl, b7, (o16.mono (by omega)), ((bthru (bthru (bthru hbV2 hbV3) hbV4) hbV5).trans (hOV6.below (by omega))), by omega⟩
        refine rd1 (fun Kx hKx => ?_)
        refine snk 7 #[.bool false, .slice none 0 0, .int .i64 0] 34 (fun V4 hbV4 hzV4 b7 => ?_)
        replace Bg := (Bg.past hbV4)
        replace Bf := (Bf.past hbV4)
        refine hKx.out _ _ ⟨Bg, Bf⟩ ?_
        clear hKx Kx
        refine sxr [8] ?_
        refine rd1 (fun Kx hKx => ?_)
        replace hp := (hp.past (bthru (bthru (bthru hbV1 hbV2) hbV3) hbV4))
        refine yck 16 (rbared g p _ c mw x d V4 hp.rd rfl (by omega) (by omega) HD.out) ?_
        rintro eV5 V5 ⟨p16, c16, rfl, o16, hbV5⟩
        have hzV5 := hbV5.size
        have lo16 := fun h => o16.lt h
        refine ⟨_, rfl, ?_⟩
        replace Bg := (Bg.past hbV5)
        replace Bf := (Bf.past hbV5)
        refine hKx.out _ _ ⟨Bg, Bf⟩ ?_
        clear hKx Kx
        refine sxr [10] ?_
        refine rd1 (fun Kx hKx => ?_)
        replace b7 := (b7.past hbV5)
        refine ssk none b7 hT34 0 #[.bool d.neg, .slice p16 (dig B16 d.m).length c16, .int .i64 d.e] #[.bool d.neg, .slice p16 (dig B16 d.m).length c16, .int .i64 d.e] ?_
        have boV6 := b7
        clear b7
        intro V6 hOV6 b7
        have hzV6 := hOV6.size
        replace Bg := (Bg.only hOV6 (by omega))
        replace Bf := (Bf.only hOV6 (by omega))
        refine hKx.out _ _ ⟨Bg, Bf⟩ ?_
        clear hKx Kx
        refine sx_done (by kernel_rfl) ?_
        replace o16 := (o16.only hOV6 (fun h => by have := lo16 h; omega))
        exact ⟨rfl, V3.heap.size, p16, c16, by kernel_rfl, b7, (o16.mono (by omega)), ((bthru (bthru (bthru hbV2 hbV3) hbV4) hbV5).trans (hOV6.below (by omega))), by omega⟩
      refine rd1 (fun Kx hKx => ?_)
      refine snk 7 #[.bool false, .slice none 0 0, .int .i64 0] 34 (fun V3 hbV3 hzV3 b7 => ?_)
      replace Bg := (Bg.past hbV3)
      replace Bf := (Bf.past hbV3)
      refine hKx.out _ _ ⟨Bg, Bf⟩ ?_
      clear hKx Kx
      refine sxr [4] ?_
      refine rd1 (fun Kx hKx => ?_)
      refine yck 12 (refWidth_any f.g V3) ?_
      rintro eV4 V4 ⟨rfl, hbV4⟩
      have hzV4 := hbV4.size
      refine ⟨_, rfl, ?_⟩
      replace Bg := (Bg.past hbV4)
      replace Bf := (Bf.past hbV4)
      refine hKx.out _ _ ⟨Bg, Bf⟩ ?_
      clear hKx Kx
      refine tk 6 14 (.int .i64 mw) ⟨Bg, Bf⟩ ?_ (hy := fun w' _ => ((show _ = Result.ok (Next.value (.int .i64 (IntKind.wrap .i64 (((wid f.g : Nat) : Int) * pw)))) _ by kernel_rfl).trans (congrArg (fun z => Result.ok (Next.value (.int .i64 z)) _) ((by rw [HMW.out]; exact IntWalk.i64_in _ (by omega))))))
      refine yt 2 [7] rfl ⟨Bg, Bf⟩ ?_
      refine sxr [8] ?_
      refine rd1 (fun Kx hKx => ?_)
      replace hp := (hp.past (bthru (bthru (bthru hbV1 hbV2) hbV3) hbV4))
      refine yck 16 (rbared g p _ c mw x d V4 hp.rd rfl (by omega) (by omega) HD.out) ?_
      rintro eV5 V5 ⟨p16, c16, rfl, o16, hbV5⟩
      have hzV5 := hbV5.size
      have lo16 := fun h => o16.lt h
      refine ⟨_, rfl, ?_⟩
      replace Bg := (Bg.past hbV5)
      replace Bf := (Bf.past hbV5)
      refine hKx.out _ _ ⟨Bg, Bf⟩ ?_
      clear hKx Kx
      refine sxr [10] ?_
      refine rd1 (fun Kx hKx => ?_)
      replace b7 := (b7.past (bthru hbV4 hbV5))
      refine ssk none b7 hT34 0 #[.bool d.neg, .slice p16 (dig B16 d.m).length c16, .int .i64 d.e] #[.bool d.neg, .slice p16 (dig B16 d.m).length c16, .int .i64 d.e] ?_
      have boV6 := b7
      clear b7
      intro V6 hOV6 b7
      have hzV6 := hOV6.size
      replace Bg := (Bg.only hOV6 (by omega))
      replace Bf := (Bf.only hOV6 (by omega))
      refine hKx.out _ _ ⟨Bg, Bf⟩ ?_
      clear hKx Kx
      refine sx_done (by kernel_rfl) ?_
      replace o16 := (o16.only hOV6 (fun h => by have := lo16 h; omega))
      exact ⟨rfl, V2.heap.size, p16, c16, by kernel_rfl, b7, (o16.mono (by omega)), ((bthru (bthru (bthru hbV2 hbV3) hbV4) hbV5).trans (hOV6.below (by omega))), by omega⟩
    rintro _ V2 ⟨kb7, p16, c16, rfl, b7, o16, hbV2, hkb7⟩
    refine hGx _ _ ?_
    clear hGx Gx
    have hzV2 := hbV2.size
    have hlb7 := b7.lt
    have lo16 := fun h => o16.lt h
    refine sx_then ?_
    refine wp_seq ?_
    refine ye ?_
    refine yl 1 rfl 18 b7 hT32 1 ?_
    refine yb 1 rfl 20 ((((dig B16 d.m).length : Nat) : Int) == 0) (false) (beq_eq_false_iff_ne.2 (by omega)) ?_
    refine yzt 0 ?_
    refine yF ?_
    refine wp_skip ?_
    refine sx_then ?_
    refine ye ?_
    replace Bg := (Bg.past (bthru hbV1 hbV2))
    refine yl 0 rfl 23 Bg hT4 0 ?_
    refine yla 0 rfl 24 b7 hT34 0 ?_
    replace b6 := (b6.past hbV2)
    have boV3 := b6
    refine ysw 1 rfl b6 hT61 #[.int .i64 2, .bool g, .bool d.neg, .slice p16 (dig B16 d.m).length c16, .int .i64 d.e] ?_
    clear b6
    intro V3 hOV3 b6
    have hzV3 := hOV3.size
    refine yzt 0 ?_
    refine wp_ret ?_
    repeat (first | with_reducible refine sx_thenret ?_ | with_reducible refine sx_blockret ?_)
    refine yret (.agg #[.int .i64 2, .bool g, .bool d.neg, .slice p16 (dig B16 d.m).length c16, .int .i64 d.e]) (res1 Tryd.results63 (rvr b6 hT61)) ?_
    replace o16 := (o16.only hOV3 (fun h => by have := lo16 h; omega))
    exact ⟨p16, c16, rfl, o16.mono (by omega), ((bthru hbV1 hbV2).trans (hOV3.below (by omega)))⟩
end Go.Proofs.YtcipdimogodndaaDoor

namespace Go.Slip
theorem all_take_succ' (r : List Bool) {i : Nat} (h : i < r.length) : (r.take (i + 1)).all id = ((r.take i).all id && r.getD i false) := by
  rw [all_take_succ r i h, List.getD_eq_getElem?_getD, List.getElem?_eq_getElem h]
  rfl
theorem plus_lt122 {X F d : Nat} (h : X < 2 ^ F) (hF : F ≤ 64) (hd : d ≤ 120) : X + 2 ^ d < 2 ^ 122 := by
  have h1 : 2 ^ F ≤ 2 ^ 64 := Nat.pow_le_pow_right (by omega) hF
  have h2 : 2 ^ d ≤ 2 ^ 120 := Nat.pow_le_pow_right (by omega) hd
  omega
theorem cmpN_neg {a b : Nat} (h : cmpN a b < 0) : a < b := by
  unfold cmpN at h
  split at h
  · assumption
  · split at h <;> omega
theorem cmpN_nonneg {a b : Nat} (h : ¬ cmpN a b < 0) : ¬ a < b := fun k => by
  apply h
  rw [cmpN_lt k]
  decide
theorem rdv_tail {w : World} {p : Option Addr} {x : Bool} {r : List Bool} (h : RdV w p ((x :: r).map Value.bool)) (E : Nat) : RdV w (p.map (·.add (1 + E))) ((r.drop E).map Value.bool) := by
  have := h.drop (1 + E)
  rw [show ((x :: r).map Value.bool).drop (1 + E) = (r.drop E).map Value.bool by rw [Nat.add_comm, List.map_cons, List.drop_succ_cons, List.map_drop]] at this
  exact this
end Go.Slip
namespace Go.Proofs.YtcipdimogodndaaDoor
open Go.RowKit Go.Slip

def GivesVrb (w : World) (v : Vr) (g : Bool) (en : Ending) (w' : World) : Prop :=
  ∃ p c, en = .returned (.tuple #[.agg #[.int .i64 ((v.cls : Nat) : Int), .bool v.neg, .bool v.x.neg, .slice p (dig B16 v.x.m).length c, .int .i64 v.x.e], .bool g]) ∧ Rf w' w.heap.size p c (dig B16 v.x.m) ∧ Below w.heap.size w w'
theorem givesVrb_none {w w' : World} {v : Vr} {k : Nat} {n g : Bool} {en : Ending} (hv : v = ⟨k, n, ⟨false, 0, 0⟩⟩) (h : en = .returned (.tuple #[.agg #[.int .i64 ((k : Nat) : Int), .bool n, .bool false, .slice none 0 0, .int .i64 0], .bool g])) (hb : Below w.heap.size w w') : GivesVrb w v g en w' := by
  subst hv
  refine ⟨none, 0, ?_, ?_, hb⟩
  · rw [h, dig_zero]; rfl
  · rw [dig_zero]; exact rf_nil _ _ _
theorem givesVrb_of {w w' : World} {v u : Vr} {g : Bool} {p : Option Addr} {c base : Nat} {en : Ending} (hv : v = u) (h : en = .returned (.tuple #[.agg #[.int .i64 ((u.cls : Nat) : Int), .bool u.neg, .bool u.x.neg, .slice p (dig B16 u.x.m).length c, .int .i64 u.x.e], .bool g])) (ho : Rf w' base p c (dig B16 u.x.m)) (hB : w.heap.size ≤ base) (hb : Below w.heap.size w w') : GivesVrb w v g en w' := by
  subst hv
  exact ⟨p, c, h, ho.mono hB, hb⟩

theorem vr_num (f : Fm) (g : Bool) {k : Nat} (hk : k ≠ 2) : f.vr g ⟨k, 0, 0⟩ = ⟨k, if k ≤ 3 then g else false, ⟨false, 0, 0⟩⟩ := by
  unfold Fm.vr Dc.c
  simp [hk]

set_option maxHeartbeats 4000000 in
set_option maxRecDepth 100000 in
theorem refDecodeOf_any (n : Int) (s : ByteArray) (w : World) (hn : IsFm n) (hs : s.size = (fmt n).size) :
    Calls Tryd.prog 25 #[.int .i64 n, .string s] w (GivesVrb w ((fmt n).refN (numOfS (fmt n) s)) ((fmt n).neg (numOfS (fmt n) s))) := by
  have G := good_fm hn
  have hext := ext_is hn
  have HF := fun W => Lib.hid (refFormat_ok n hn W)
  have HB := fun W => Lib.hid (refBitsOf_any n s W hn hs)
  generalize fmt n = f at *
  have z1 := G.sz
  have z2 := G.e2
  have z3 := G.f2
  have z4 := G.bits
  have z5 := G.lo
  have z6 := G.f1
  have hl0 : (bytesOf s).length = f.size := by rw [bytesOf_length, hs]
  have hlL : (ordL f.ord (bytesOf s)).length = f.size := by rw [ordL_len, hl0]
  have hN : numOfS f s = vb (bitsB (ordL f.ord (bytesOf s))) := (vb_bits _ (ordL_bytes (fun _ => by omega) (bytesOf_lt s))).symm
  have hlB : (bitsB (ordL f.ord (bytesOf s))).length = 1 + f.E + f.F := by rw [bitsB_len, hlL]; omega
  rw [hN]
  clear hN
  generalize bitsB (ordL f.ord (bytesOf s)) = bs at *
  obtain ⟨x, r, rfl⟩ : ∃ x r, bs = x :: r := by
    cases bs with
    | nil => simp at hlB; omega
    | cons x r => exact ⟨x, r, rfl⟩
  have hr : r.length = f.E + f.F := by rw [List.length_cons] at hlB; omega
  unfold Fm.refN Fm.decN
  rw [bits_neg hr, bits_exp hr, bits_frac hr]
  have hEl : (r.take f.E).length = f.E := by rw [List.length_take]; omega
  have hXl : (r.drop f.E).length = f.F := by rw [List.length_drop]; omega
  have hones := vb_ones (r.take f.E)
  rw [hEl] at hones
  have hElt := vb_lt (r.take f.E)
  rw [hEl] at hElt
  have hXlt := vb_lt (r.drop f.E)
  rw [hXl] at hXlt
  have HV := fun W p m c h hm => Lib.hid (refValue_any (r.drop f.E) p m c W h hm (by omega))
  have hvt := fun i h => vb_take_succ' r (i := i) h
  have hat := fun i h => all_take_succ' r (i := i) h
  have hev : ∀ i, i ≤ f.E → vb (r.take i) < 32768 := fun i hi => Nat.lt_of_lt_of_le (vb_lt _) (by rw [List.length_take, show (32768 : Nat) = 2 ^ 15 from rfl]; exact Nat.pow_le_pow_right (by omega) (by omega))
  have hget := fun i h => map_getD r (i := i) h
  generalize hEE : vb (r.take f.E) = EE at *
  generalize hXX : vb (r.drop f.E) = X at *
  have hXd := dig16_le_pow hXlt (k := 4) (by omega)
  have hX0 := dig_len_zero B16_two X
  have h15 : EE < 32768 := Nat.lt_of_lt_of_le hElt (by rw [show (32768 : Nat) = 2 ^ 15 from rfl]; exact Nat.pow_le_pow_right (by omega) (by omega))
  have hg := goodG_of G.g
  have hd1 := hg.d1
  have hd2 := hg.d2
  obtain ⟨dN, hdN⟩ : ∃ dN : Nat, f.g.digs - 1 = (dN : Int) := ⟨(f.g.digs - 1).toNat, by omega⟩
  have hdl : (dig B16 (2 ^ dN)).length ≤ 8 := dig16_le_pow (n := 121) (Nat.pow_lt_pow_right (by omega) (by omega)) (by omega)
  have hd1F := G.d1
  have hextF := G.ext
  have hfam := G.fam
  have hln : (List.map Value.bool (x :: r)).length = (x :: r).length := List.length_map ..
  have hlr : (x :: r).length = 1 + f.E + f.F := hlB
  clear hXX hl0 hlL hXl hs
  have hT3 : SxOne Tryd.prog 3 := sxOne_of (by kernel_rfl) (by kernel_rfl)
  have hT4 : SxOne Tryd.prog 4 := sxOne_of (by kernel_rfl) (by kernel_rfl)
  have hT61 : SxAgg Tryd.prog 61 5 := sxAgg_of (by kernel_rfl) (by kernel_rfl)
  have hT79 : SxAgg Tryd.prog 79 9 := sxAgg_of (by kernel_rfl) (by kernel_rfl)
  refine calls_of_wp Tryd.func25 rfl ?_
  refine sx_frame (a' := ⟨((.int .i64 n) :: (.string s) :: us 146 []).toArray, []⟩) (by kernel_rfl) ?_
  refine ye ?_
  refine yw 0 rfl 4 #[.int .i64 0, .bool false, .bool false, .slice none 0 0, .int .i64 0] 61 (fun V1 hbV1 hzV1 b4 => ?_)
  refine yzt 1 ?_
  refine ye ?_
  refine yc 1 rfl 19 ((HF V1).out) (fun Gx hGx => ?_)
  rintro eV2 V2 ⟨rfl, hbV2⟩
  have hzV2 := hbV2.size
  refine ⟨_, rfl, hGx _ _ ?_⟩
  clear hGx Gx
  refine yw 3 rfl 6 #[.int .i64 0, .int .i64 0, .int .i64 0, .int .i64 0, .int .i64 0, .int .i64 0, .int .i64 0, .bool false, .int .i64 0] 79 (fun V3 hbV3 hzV3 b6 => ?_)
  have boV4 := b6
  refine ysw 0 rfl b6 hT79 #[.int .i64 ((f.size : Nat) : Int), .int .i64 ((f.E : Nat) : Int), .int .i64 ((f.F : Nat) : Int), .int .i64 f.g.rad, .int .i64 f.g.digs, .int .i64 f.g.lo, .int .i64 f.g.hi, .bool f.g.grad, .int .i64 ((f.fam : Nat) : Int)] ?_
  clear b6
  intro V4 hOV4 b6
  have hzV4 := hOV4.size
  refine yzt 1 ?_
  refine ye ?_
  refine yc 2 rfl 24 ((HB V4).out) (fun Gx hGx => ?_)
  rintro eV5 V5 ⟨p8, c8, rfl, o8, hbV5⟩
  have hzV5 := hbV5.size
  refine ⟨_, rfl, hGx _ _ ?_⟩
  clear hGx Gx
  refine yzt 1 ?_
  refine ye ?_
  refine yv 1 rfl 26 (.pointer (some (at_ p8 0))) ?_ (exec_ixv (p := p8) (n := (x :: r).length) (c := c8) (m := 0) tvBools (by have h := o8.rd.solid; rw [hln] at h; exact h) (by kernel_rfl) (by kernel_rfl) (by omega))
  refine yv 0 rfl 27 (.bool x) ?_ (exec_ldv o8.rd ldBool (m := 0) (by kernel_rfl) rfl)
  refine yw 0 rfl 9 #[.bool false] 4 (fun V6 hbV6 hzV6 b9 => ?_)
  have boV7 := b9
  refine ys1 0 rfl b9 hT4 0 (.bool x) #[.bool x] ?_
  clear b9
  intro V7 hOV7 b9
  have hzV7 := hOV7.size
  refine yzt 0 ?_
  refine yq ?_
  refine yq ?_
  refine wp_seq ?_
  refine yq ?_
  refine wp_block ?_
  refine sx_frame (a' := ⟨((.int .i64 n) :: (.string s) :: us 2 ((.pointer (some ⟨w.heap.size, 0, none⟩)) :: (.bool false) :: (.pointer (some ⟨V2.heap.size, 0, none⟩)) :: (.bool true) :: (.slice p8 (x :: r).length c8) :: (.pointer (some ⟨V5.heap.size, 0, none⟩)) :: (.int .i64 0) :: (.bool true) :: (.int .i64 1) :: us 4 ((.tuple #[.agg #[.int .i64 ((f.size : Nat) : Int), .int .i64 ((f.E : Nat) : Int), .int .i64 ((f.F : Nat) : Int), .int .i64 f.g.rad, .int .i64 f.g.digs, .int .i64 f.g.lo, .int .i64 f.g.hi, .bool f.g.grad, .int .i64 ((f.fam : Nat) : Int)], .bool true]) :: (.int .i64 n) :: (.tuple #[.agg #[.int .i64 ((f.size : Nat) : Int), .int .i64 ((f.E : Nat) : Int), .int .i64 ((f.F : Nat) : Int), .int .i64 f.g.rad, .int .i64 f.g.digs, .int .i64 f.g.lo, .int .i64 f.g.hi, .bool f.g.grad, .int .i64 ((f.fam : Nat) : Int)], .bool true]) :: (.agg #[.int .i64 ((f.size : Nat) : Int), .int .i64 ((f.E : Nat) : Int), .int .i64 ((f.F : Nat) : Int), .int .i64 f.g.rad, .int .i64 f.g.digs, .int .i64 f.g.lo, .int .i64 f.g.hi, .bool f.g.grad, .int .i64 ((f.fam : Nat) : Int)]) :: (.bool true) :: (.int .i64 n) :: (.string s) :: (.slice p8 (x :: r).length c8) :: (.slice p8 (x :: r).length c8) :: (.pointer (some (at_ p8 0))) :: (.bool x) :: us 120 []))).toArray, []⟩) (by kernel_rfl) ?_
  refine sx_loop2 (fun (gk : Nat) U0 a' w' => ∃ (i : Nat) (e : Nat) (o : Bool), a' = ⟨((.int .i64 n) :: (.string s) :: us 2 ((.pointer (some ⟨w.heap.size, 0, none⟩)) :: (.bool false) :: (.pointer (some ⟨V2.heap.size, 0, none⟩)) :: (.bool true) :: (.slice p8 (x :: r).length c8) :: (.pointer (some ⟨V5.heap.size, 0, none⟩)) :: (.int .i64 ((e : Nat) : Int)) :: (.bool o) :: (.int .i64 ((i + 1 : Nat) : Int)) :: us 4 ((.tuple #[.agg #[.int .i64 ((f.size : Nat) : Int), .int .i64 ((f.E : Nat) : Int), .int .i64 ((f.F : Nat) : Int), .int .i64 f.g.rad, .int .i64 f.g.digs, .int .i64 f.g.lo, .int .i64 f.g.hi, .bool f.g.grad, .int .i64 ((f.fam : Nat) : Int)], .bool true]) :: (.int .i64 n) :: (.tuple #[.agg #[.int .i64 ((f.size : Nat) : Int), .int .i64 ((f.E : Nat) : Int), .int .i64 ((f.F : Nat) : Int), .int .i64 f.g.rad, .int .i64 f.g.digs, .int .i64 f.g.lo, .int .i64 f.g.hi, .bool f.g.grad, .int .i64 ((f.fam : Nat) : Int)], .bool true]) :: (.agg #[.int .i64 ((f.size : Nat) : Int), .int .i64 ((f.E : Nat) : Int), .int .i64 ((f.F : Nat) : Int), .int .i64 f.g.rad, .int .i64 f.g.digs, .int .i64 f.g.lo, .int .i64 f.g.hi, .bool f.g.grad, .int .i64 ((f.fam : Nat) : Int)]) :: (.bool true) :: (.int .i64 n) :: (.string s) :: (.slice p8 (x :: r).length c8) :: (.slice p8 (x :: r).length c8) :: (.pointer (some (at_ p8 0))) :: (.bool x) :: uvs U0 28 21 (us 99 [])))).toArray, []⟩ ∧ Below V7.heap.size V7 w' ∧ (e = vb (r.take i)) ∧ (o = (r.take i).all id) ∧ (gk + i = f.E)) f.E ?_ (fun Gx hGx => ?_)
  · skip
    exact ⟨0, 0, true, by kernel_rfl, Below.refl _ _, rfl, rfl, (by omega)⟩
  rintro gk0 U0 _ V8 ⟨i, e, o, rfl, hbV8, he, ho, hgk⟩
  refine hGx _ _ _ ?_
  clear hGx Gx
  have hzV8 := hbV8.size
  refine wp_seq ?_
  have hel : e < 32768 := by rw [he]; exact hev i (by omega)
  refine ye ?_
  replace b6 := (b6.past (bthru ((bthru hbV5 hbV6).trans (hOV7.below (by omega))) hbV8))
  refine yl 2 rfl 30 b6 hT3 1 ?_
  rcases Bool.eq_false_or_eq_true (decide (((i + 1 : Nat) : Int) ≤ ((f.E : Nat) : Int))) with f31 | f31
  · skip
    refine yb 0 rfl 31 (decide (((i + 1 : Nat) : Int) ≤ ((f.E : Nat) : Int))) (true) (f31) ?_
    refine yzt 0 ?_
    refine yT ?_
    refine wp_skip ?_
    refine sx_then ?_
    refine wp_seq ?_
    refine wp_block ?_
    refine ye ?_
    refine ya 1 rfl 35 .i64 ((2 : Int) * ((e : Nat) : Int)) (((2 * e : Nat) : Int)) ((by rw [show ((2 : Int) * ((e : Nat) : Int)) = ((2 * e : Nat) : Int) by omega]; exact IntWalk.i64_in _ (by omega))) ?_
    refine yzt 1 ?_
    refine wp_seq ?_
    refine ye ?_
    replace o8 := (o8.past (bthru (hbV6.trans (hOV7.below (by omega))) hbV8))
    refine yv 2 rfl 38 (.pointer (some (at_ p8 (i + 1)))) ?_ (exec_ixv (p := p8) (n := (x :: r).length) (c := c8) (m := i + 1) tvBools (by have h := o8.rd.solid; rw [hln] at h; exact h) (by kernel_rfl) (by kernel_rfl) (by have := of_decide_eq_true f31; omega))
    rcases Bool.eq_false_or_eq_true (r.getD i false) with f39 | f39
    · skip
      refine yv 0 rfl 39 (.bool true) ?_ ((show _ = Result.ok (Next.value (.bool (r.getD i false))) _ from (exec_ldv o8.rd ldBool (m := i + 1) (by kernel_rfl) (by rw [List.map_cons, List.getElem?_cons_succ]; exact hget i (by have := of_decide_eq_true f31; omega)))).trans (congrArg (fun z => Result.ok (Next.value (.bool z)) _) (show (r.getD i false) = true from f39)))
      refine yzt 0 ?_
      refine yT ?_
      refine sx_region ?_
      refine ya 1 rfl 41 .i64 (((2 * e : Nat) : Int) + 1) (((2 * e + 1 : Nat) : Int)) ((by rw [show (((2 * e : Nat) : Int) + 1) = ((2 * e + 1 : Nat) : Int) by omega]; exact IntWalk.i64_in _ (by omega))) ?_
      refine yz 1 ?_
      refine sx_then ?_
      refine sx_region ?_
      rcases Bool.eq_false_or_eq_true (o) with f43 | f43
      · skip
        refine yb 1 rfl 43 (o) (true) (f43) ?_
        refine yv 2 rfl 46 (.pointer (some (at_ p8 (i + 1)))) ?_ (exec_ixv (p := p8) (n := (x :: r).length) (c := c8) (m := i + 1) tvBools (by have h := o8.rd.solid; rw [hln] at h; exact h) (by kernel_rfl) (by kernel_rfl) (by have := of_decide_eq_true f31; omega))
        refine yv 0 rfl 47 (.bool true) ?_ ((show _ = Result.ok (Next.value (.bool (r.getD i false))) _ from (exec_ldv o8.rd ldBool (m := i + 1) (by kernel_rfl) (by rw [List.map_cons, List.getElem?_cons_succ]; exact hget i (by have := of_decide_eq_true f31; omega)))).trans (congrArg (fun z => Result.ok (Next.value (.bool z)) _) (show (r.getD i false) = true from f39)))
        refine yz 2 ?_
        refine sx_inblock ?_
        refine sx_then ?_
        refine sx_region ?_
        refine ya 1 rfl 33 .i64 (((i + 1 : Nat) : Int) + 1) (((i + 1 + 1 : Nat) : Int)) ((by rw [show (((i + 1 : Nat) : Int) + 1) = ((i + 1 + 1 : Nat) : Int) by omega]; exact IntWalk.i64_in _ (by have := of_decide_eq_true f31; omega))) ?_
        refine yz 1 ?_
        refine sx_then ?_
        refine ⟨gk0 - 1, (by have := of_decide_eq_true f31; omega), ?_⟩
        exact ⟨i + 1, 2 * e + 1, true, by kernel_rfl, hbV8, (by rw [← hvt i (by have := of_decide_eq_true f31; omega), f39, he, Bool.toNat_true, Nat.mul_comm]), (by rw [hat i (by have := of_decide_eq_true f31; omega), f39, ← ho, f43]; rfl), (by have := of_decide_eq_true f31; omega)⟩
      refine yb 1 rfl 43 (o) (false) (f43) ?_
      refine yz 6 ?_
      refine sx_inblock ?_
      refine sx_then ?_
      refine sx_region ?_
      refine ya 1 rfl 33 .i64 (((i + 1 : Nat) : Int) + 1) (((i + 1 + 1 : Nat) : Int)) ((by rw [show (((i + 1 : Nat) : Int) + 1) = ((i + 1 + 1 : Nat) : Int) by omega]; exact IntWalk.i64_in _ (by have := of_decide_eq_true f31; omega))) ?_
      refine yz 1 ?_
      refine sx_then ?_
      refine ⟨gk0 - 1, (by have := of_decide_eq_true f31; omega), ?_⟩
      exact ⟨i + 1, 2 * e + 1, false, by kernel_rfl, hbV8, (by rw [← hvt i (by have := of_decide_eq_true f31; omega), f39, he, Bool.toNat_true, Nat.mul_comm]), (by rw [hat i (by have := of_decide_eq_true f31; omega), f39, ← ho, f43]; rfl), (by have := of_decide_eq_true f31; omega)⟩
    refine yv 0 rfl 39 (.bool false) ?_ ((show _ = Result.ok (Next.value (.bool (r.getD i false))) _ from (exec_ldv o8.rd ldBool (m := i + 1) (by kernel_rfl) (by rw [List.map_cons, List.getElem?_cons_succ]; exact hget i (by have := of_decide_eq_true f31; omega)))).trans (congrArg (fun z => Result.ok (Next.value (.bool z)) _) (show (r.getD i false) = false from f39)))
    refine yzt 0 ?_
    refine yF ?_
    refine wp_skip ?_
    refine sx_then ?_
    refine sx_region ?_
    rcases Bool.eq_false_or_eq_true (o) with f43 | f43
    · skip
      refine yb 1 rfl 43 (o) (true) (f43) ?_
      refine yv 2 rfl 46 (.pointer (some (at_ p8 (i + 1)))) ?_ (exec_ixv (p := p8) (n := (x :: r).length) (c := c8) (m := i + 1) tvBools (by have h := o8.rd.solid; rw [hln] at h; exact h) (by kernel_rfl) (by kernel_rfl) (by have := of_decide_eq_true f31; omega))
      refine yv 0 rfl 47 (.bool false) ?_ ((show _ = Result.ok (Next.value (.bool (r.getD i false))) _ from (exec_ldv o8.rd ldBool (m := i + 1) (by kernel_rfl) (by rw [List.map_cons, List.getElem?_cons_succ]; exact hget i (by have := of_decide_eq_true f31; omega)))).trans (congrArg (fun z => Result.ok (Next.value (.bool z)) _) (show (r.getD i false) = false from f39)))
      refine yz 2 ?_
      refine sx_inblock ?_
      refine sx_then ?_
      refine sx_region ?_
      refine ya 1 rfl 33 .i64 (((i + 1 : Nat) : Int) + 1) (((i + 1 + 1 : Nat) : Int)) ((by rw [show (((i + 1 : Nat) : Int) + 1) = ((i + 1 + 1 : Nat) : Int) by omega]; exact IntWalk.i64_in _ (by have := of_decide_eq_true f31; omega))) ?_
      refine yz 1 ?_
      refine sx_then ?_
      refine ⟨gk0 - 1, (by have := of_decide_eq_true f31; omega), ?_⟩
      exact ⟨i + 1, 2 * e, false, by kernel_rfl, hbV8, (by rw [← hvt i (by have := of_decide_eq_true f31; omega), f39, he, Bool.toNat_false, Nat.mul_comm, Nat.add_zero]), (by rw [hat i (by have := of_decide_eq_true f31; omega), f39, ← ho, f43]; rfl), (by have := of_decide_eq_true f31; omega)⟩
    refine yb 1 rfl 43 (o) (false) (f43) ?_
    refine yz 6 ?_
    refine sx_inblock ?_
    refine sx_then ?_
    refine sx_region ?_
    refine ya 1 rfl 33 .i64 (((i + 1 : Nat) : Int) + 1) (((i + 1 + 1 : Nat) : Int)) ((by rw [show (((i + 1 : Nat) : Int) + 1) = ((i + 1 + 1 : Nat) : Int) by omega]; exact IntWalk.i64_in _ (by have := of_decide_eq_true f31; omega))) ?_
    refine yz 1 ?_
    refine sx_then ?_
    refine ⟨gk0 - 1, (by have := of_decide_eq_true f31; omega), ?_⟩
    exact ⟨i + 1, 2 * e, false, by kernel_rfl, hbV8, (by rw [← hvt i (by have := of_decide_eq_true f31; omega), f39, he, Bool.toNat_false, Nat.mul_comm, Nat.add_zero]), (by rw [hat i (by have := of_decide_eq_true f31; omega), f39, ← ho, f43]; rfl), (by have := of_decide_eq_true f31; omega)⟩
  refine yb 0 rfl 31 (decide (((i + 1 : Nat) : Int) ≤ ((f.E : Nat) : Int))) (false) (f31) ?_
  refine yzt 0 ?_
  refine yF ?_
  refine wp_exit ?_
  repeat (with_reducible refine sx_thenexit ?_)
  refine sx_exit (id := 0) ?_
  refine sx_then ?_
  have hiE : i = f.E := by have := of_decide_eq_false f31; omega
  have heE : e = EE := by rw [he, hiE, hEE]
  have hoE : o = true ↔ EE = 2 ^ f.E - 1 := by rw [ho, hiE]; exact hones
  clear he ho hgk hel hev hget hvt hat hones hEE
  subst heE
  refine ye ?_
  refine yl 2 rfl 51 b6 hT3 1 ?_
  refine ya 0 rfl 52 .i64 ((1 : Int) + ((f.E : Nat) : Int)) (((1 + f.E : Nat) : Int)) ((by rw [show ((1 : Int) + ((f.E : Nat) : Int)) = ((1 + f.E : Nat) : Int) by omega]; exact IntWalk.i64_in _ (by omega))) ?_
  replace o8 := (o8.past (bthru (hbV6.trans (hOV7.below (by omega))) hbV8))
  refine yv 0 rfl 53 (.slice (p8.map (·.add (1 + f.E))) ((x :: r).length - (1 + f.E)) (c8 - (1 + f.E))) ?_ (exec_tlv tvBools (m := 1 + f.E) (by kernel_rfl) (by kernel_rfl) (by omega) (by have := o8.le_cap; rw [hln] at this; omega) (by have := o8.le_cap; rw [hln] at this; omega))
  refine yc 0 rfl 54 ((HV V8 (p8.map (·.add (1 + f.E))) ((x :: r).length - (1 + f.E)) (c8 - (1 + f.E)) (rdv_tail o8.rd f.E) (by rw [List.length_drop, hlr]; omega)).out) (fun Gx hGx => ?_)
  rintro eV9 V9 ⟨p54, c54, rfl, o54, hbV9⟩
  have hzV9 := hbV9.size
  have lo54 := fun h => o54.lt h
  refine ⟨_, rfl, hGx _ _ ?_⟩
  clear hGx Gx
  refine yzt 1 ?_
  refine ye ?_
  replace b6 := (b6.past hbV9)
  refine yl 2 rfl 57 b6 hT3 4 ?_
  refine ya 0 rfl 58 .i64 (f.g.digs - 1) ((dN : Int)) ((by rw [hdN]; exact IntWalk.i64_in _ (by omega))) ?_
  refine yc 0 rfl 59 (rpow2 ((dN : Nat) : Int) dN rfl (by omega) V9) (fun Gx hGx => ?_)
  rintro eV10 V10 ⟨p59, c59, rfl, o59, hbV10⟩
  have hzV10 := hbV10.size
  have lo59 := fun h => o59.lt h
  refine ⟨_, rfl, hGx _ _ ?_⟩
  clear hGx Gx
  refine yzt 1 ?_
  refine yq ?_
  refine ye ?_
  replace b6 := (b6.past hbV10)
  refine yl 2 rfl 63 b6 hT3 5 ?_
  refine yzt 1 ?_
  refine wp_seq ?_
  refine ye ?_
  refine yl 1 rfl 65 b6 hT3 8 ?_
  refine yzt 0 ?_
  refine wp_block ?_
  refine ye ?_
  rcases Bool.eq_false_or_eq_true (((f.fam : Nat) : Int) == 2) with f67 | f67
  · skip
    refine yb 0 rfl 67 (((f.fam : Nat) : Int) == 2) (true) (f67) ?_
    refine yzt 1 ?_
    refine yT ?_
    refine wp_seq ?_
    replace b9 := (b9.past (bthru (bthru hbV8 hbV9) hbV10))
    obtain ⟨V11, hVV11, hbV11, hzV11⟩ := drew_of V10
    replace b9 := (b9.past hbV11)
    refine yd1 hVV11 b9 ?_
    clear hVV11
    refine yt 5 [0, 1, 2, 3] rfl b9 ?_
    refine tk 4 72 (.int .i64 (f.g.lo + ((e : Nat) : Int))) b9 ?_ (hy := fun w' _ => ((show _ = Result.ok (Next.value (.int .i64 (IntKind.wrap .i64 (f.g.lo + ((e : Nat) : Int))))) _ by kernel_rfl).trans (congrArg (fun z => Result.ok (Next.value (.int .i64 z)) _) (IntWalk.i64_in _ (by omega)))))
    refine ytl 6 rfl 74 (fun _ h => h) hT4 0 b9 ?_
    refine sxr [5] ?_
    refine rd1 (fun Kx hKx => ?_)
    replace o54 := (o54.past (bthru hbV10 hbV11))
    replace b6 := (b6.past hbV11)
    refine yck 73 (refNumber_any f x V5.heap.size V2.heap.size (X) p54 c54 _ (f.g.lo + (e : Int)) V11 o54 (by omega) (by omega) b9 b6) ?_
    rintro eV12 V12 ⟨pN, cN, rfl, oN, hbV12⟩
    have hzV12 := hbV12.size
    have loN := fun h => oN.lt h
    have hD : f.dec x e X = ⟨2, X, f.g.lo + (e : Int)⟩ := by unfold Fm.dec; rw [if_pos (by have := beq_iff_eq.1 f67; omega)]
    refine ⟨_, rfl, ?_⟩
    replace b9 := (b9.past hbV12)
    refine hKx.out _ _ b9 ?_
    clear hKx Kx
    refine sxr [7] ?_
    refine rd1 (fun Kx hKx => ?_)
    replace b4 := (b4.past (bthru (bthru (bthru (bthru (bthru ((bthru (bthru ((bthru hbV2 hbV3).trans (hOV4.below (by omega))) hbV5) hbV6).trans (hOV7.below (by omega))) hbV8) hbV9) hbV10) hbV11) hbV12))
    refine ssk none b4 hT61 0 #[.int .i64 (((f.vr x ⟨2, X, f.g.lo + (e : Int)⟩).cls : Nat) : Int), .bool ((f.vr x ⟨2, X, f.g.lo + (e : Int)⟩).neg), .bool ((f.vr x ⟨2, X, f.g.lo + (e : Int)⟩).x.neg), .slice pN (dig B16 (f.vr x ⟨2, X, f.g.lo + (e : Int)⟩).x.m).length cN, .int .i64 ((f.vr x ⟨2, X, f.g.lo + (e : Int)⟩).x.e)] #[.int .i64 (((f.vr x ⟨2, X, f.g.lo + (e : Int)⟩).cls : Nat) : Int), .bool ((f.vr x ⟨2, X, f.g.lo + (e : Int)⟩).neg), .bool ((f.vr x ⟨2, X, f.g.lo + (e : Int)⟩).x.neg), .slice pN (dig B16 (f.vr x ⟨2, X, f.g.lo + (e : Int)⟩).x.m).length cN, .int .i64 ((f.vr x ⟨2, X, f.g.lo + (e : Int)⟩).x.e)] ?_
    have boV13 := b4
    clear b4
    intro V13 hOV13 b4
    have hzV13 := hOV13.size
    replace b9 := (b9.only hOV13 (by omega))
    refine hKx.out _ _ b9 ?_
    clear hKx Kx
    refine yt 0 [8] rfl b9 ?_
    refine sx_done (by kernel_rfl) ?_
    refine sx_then ?_
    refine wp_ret ?_
    repeat (first | with_reducible refine sx_thenret ?_ | with_reducible refine sx_blockret ?_)
    refine yret (.tuple #[.agg #[.int .i64 (((f.vr x ⟨2, X, f.g.lo + (e : Int)⟩).cls : Nat) : Int), .bool ((f.vr x ⟨2, X, f.g.lo + (e : Int)⟩).neg), .bool ((f.vr x ⟨2, X, f.g.lo + (e : Int)⟩).x.neg), .slice pN (dig B16 (f.vr x ⟨2, X, f.g.lo + (e : Int)⟩).x.m).length cN, .int .i64 ((f.vr x ⟨2, X, f.g.lo + (e : Int)⟩).x.e)], .bool x]) (res2 Tryd.results25 (rvr b4 hT61) rvt) ?_
    replace oN := (oN.only hOV13 (fun h => by have := loN h; omega))
    exact givesVrb_of (by rw [hD]) rfl oN (by omega) ((bthru (bthru (bthru (bthru (bthru ((bthru (bthru ((bthru (bthru hbV1 hbV2) hbV3).trans (hOV4.below (by omega))) hbV5) hbV6).trans (hOV7.below (by omega))) hbV8) hbV9) hbV10) hbV11) hbV12).trans (hOV13.below (by omega)))
  refine yb 0 rfl 67 (((f.fam : Nat) : Int) == 2) (false) (f67) ?_
  refine yzt 1 ?_
  refine yF ?_
  refine ye ?_
  rcases Bool.eq_false_or_eq_true (((f.fam : Nat) : Int) == 3) with f76 | f76
  · skip
    refine yb 0 rfl 76 (((f.fam : Nat) : Int) == 3) (true) (f76) ?_
    refine yzt 1 ?_
    refine yT ?_
    refine wp_seq ?_
    refine ye ?_
    rcases Bool.eq_false_or_eq_true (((e : Nat) : Int) == 0) with f78 | f78
    · skip
      refine yb 1 rfl 78 (((e : Nat) : Int) == 0) (true) (f78) ?_
      refine yzt 0 ?_
      refine yT ?_
      refine wp_seq ?_
      refine ye ?_
      rcases Bool.eq_false_or_eq_true (x) with f79 | f79
      · skip
        replace b9 := (b9.past (bthru (bthru hbV8 hbV9) hbV10))
        refine ylb 0 rfl 79 b9 hT4 0 (x) true (f79) ?_
        refine yzt 0 ?_
        refine yT ?_
        refine wp_seq ?_
        obtain ⟨V11, hVV11, hbV11, hzV11⟩ := drew_of V10
        replace b9 := (b9.past hbV11)
        refine yd1 hVV11 b9 ?_
        clear hVV11
        have hD : f.dec x e X = ⟨5, 0, 0⟩ := by unfold Fm.dec; rw [if_neg (by have := beq_iff_eq.1 f76; omega), if_neg (by have := beq_iff_eq.1 f76; omega), if_pos ⟨by have := beq_iff_eq.1 f76; omega, by have := beq_iff_eq.1 f78; omega⟩, if_pos f79]
        refine yt 3 [0] rfl b9 ?_
        refine ytl 1 rfl 81 (fun _ h => h) hT4 0 b9 ?_
        refine sxr [2] ?_
        refine rd1 (fun Kx hKx => ?_)
        replace b4 := (b4.past (bthru (bthru (bthru (bthru ((bthru (bthru ((bthru hbV2 hbV3).trans (hOV4.below (by omega))) hbV5) hbV6).trans (hOV7.below (by omega))) hbV8) hbV9) hbV10) hbV11))
        refine ssk none b4 hT61 0 #[.int .i64 5, .bool false, .bool false, .slice none 0 0, .int .i64 0] #[.int .i64 5, .bool false, .bool false, .slice none 0 0, .int .i64 0] ?_
        have boV12 := b4
        clear b4
        intro V12 hOV12 b4
        have hzV12 := hOV12.size
        replace b9 := (b9.only hOV12 (by omega))
        refine hKx.out _ _ b9 ?_
        clear hKx Kx
        refine yt 0 [3] rfl b9 ?_
        refine sx_done (by kernel_rfl) ?_
        refine sx_then ?_
        refine wp_ret ?_
        repeat (first | with_reducible refine sx_thenret ?_ | with_reducible refine sx_blockret ?_)
        refine yret (.tuple #[.agg #[.int .i64 5, .bool false, .bool false, .slice none 0 0, .int .i64 0], .bool x]) (res2 Tryd.results25 (rvr b4 hT61) rvt) ?_
        exact givesVrb_none (by rw [hD, vr_num f x (by omega), if_neg (by omega)]) rfl ((bthru (bthru (bthru (bthru ((bthru (bthru ((bthru (bthru hbV1 hbV2) hbV3).trans (hOV4.below (by omega))) hbV5) hbV6).trans (hOV7.below (by omega))) hbV8) hbV9) hbV10) hbV11).trans (hOV12.below (by omega)))
      replace b9 := (b9.past (bthru (bthru hbV8 hbV9) hbV10))
      refine ylb 0 rfl 79 b9 hT4 0 (x) false (f79) ?_
      refine yzt 0 ?_
      refine yF ?_
      refine wp_skip ?_
      refine sx_then ?_
      refine wp_seq ?_
      obtain ⟨V11, hVV11, hbV11, hzV11⟩ := drew_of V10
      replace b9 := (b9.past hbV11)
      refine yd1 hVV11 b9 ?_
      clear hVV11
      have hD : f.dec x e X = ⟨1, 0, 0⟩ := by unfold Fm.dec; rw [if_neg (by have := beq_iff_eq.1 f76; omega), if_neg (by have := beq_iff_eq.1 f76; omega), if_pos ⟨by have := beq_iff_eq.1 f76; omega, by have := beq_iff_eq.1 f78; omega⟩, if_neg (by rw [f79]; simp)]
      refine yt 3 [0] rfl b9 ?_
      refine ytl 1 rfl 83 (fun _ h => h) hT4 0 b9 ?_
      refine sxr [2] ?_
      refine rd1 (fun Kx hKx => ?_)
      replace b4 := (b4.past (bthru (bthru (bthru (bthru ((bthru (bthru ((bthru hbV2 hbV3).trans (hOV4.below (by omega))) hbV5) hbV6).trans (hOV7.below (by omega))) hbV8) hbV9) hbV10) hbV11))
      refine ssk none b4 hT61 0 #[.int .i64 1, .bool false, .bool false, .slice none 0 0, .int .i64 0] #[.int .i64 1, .bool false, .bool false, .slice none 0 0, .int .i64 0] ?_
      have boV12 := b4
      clear b4
      intro V12 hOV12 b4
      have hzV12 := hOV12.size
      replace b9 := (b9.only hOV12 (by omega))
      refine hKx.out _ _ b9 ?_
      clear hKx Kx
      refine yt 0 [3] rfl b9 ?_
      refine sx_done (by kernel_rfl) ?_
      refine sx_then ?_
      refine wp_ret ?_
      repeat (first | with_reducible refine sx_thenret ?_ | with_reducible refine sx_blockret ?_)
      refine yret (.tuple #[.agg #[.int .i64 1, .bool false, .bool false, .slice none 0 0, .int .i64 0], .bool x]) (res2 Tryd.results25 (rvr b4 hT61) rvt) ?_
      exact givesVrb_none (by rw [hD, vr_num f x (by omega), if_pos (by omega), f79]) rfl ((bthru (bthru (bthru (bthru ((bthru (bthru ((bthru (bthru hbV1 hbV2) hbV3).trans (hOV4.below (by omega))) hbV5) hbV6).trans (hOV7.below (by omega))) hbV8) hbV9) hbV10) hbV11).trans (hOV12.below (by omega)))
    refine yb 1 rfl 78 (((e : Nat) : Int) == 0) (false) (f78) ?_
    refine yzt 0 ?_
    refine yF ?_
    refine wp_skip ?_
    refine sx_then ?_
    refine wp_seq ?_
    replace b9 := (b9.past (bthru (bthru hbV8 hbV9) hbV10))
    obtain ⟨V11, hVV11, hbV11, hzV11⟩ := drew_of V10
    replace b9 := (b9.past hbV11)
    refine yd1 hVV11 b9 ?_
    clear hVV11
    refine yt 7 [0, 1, 2, 4, 5] rfl b9 ?_
    refine tk 6 90 (.int .i64 (f.g.lo + ((e : Nat) : Int))) b9 ?_ (hy := fun w' _ => ((show _ = Result.ok (Next.value (.int .i64 (IntKind.wrap .i64 (f.g.lo + ((e : Nat) : Int))))) _ by kernel_rfl).trans (congrArg (fun z => Result.ok (Next.value (.int .i64 z)) _) (IntWalk.i64_in _ (by omega)))))
    refine tk 7 91 (.int .i64 ((f.g.lo + ((e : Nat) : Int)) - 1)) b9 ?_ (hy := fun w' _ => ((show _ = Result.ok (Next.value (.int .i64 (IntKind.wrap .i64 ((f.g.lo + ((e : Nat) : Int)) - 1)))) _ by kernel_rfl).trans (congrArg (fun z => Result.ok (Next.value (.int .i64 z)) _) (IntWalk.i64_in _ (by omega)))))
    refine ytl 9 rfl 93 (fun _ h => h) hT4 0 b9 ?_
    refine sxr [3] ?_
    refine rd1 (fun Kx hKx => ?_)
    have q76 : f.fam = 3 := by have := beq_iff_eq.1 f76; omega
    have q78 : e ≠ 0 := by have := beq_eq_false_iff_ne.1 f78; omega
    have qx : f.ext = false := by cases hh : f.ext with | false => rfl | true => exact absurd (hextF hh).1 (by omega)
    have qF : dN = f.F := by have := hd1F (by omega) qx; omega
    replace o54 := (o54.past (bthru hbV10 hbV11))
    replace o59 := (o59.past hbV11)
    refine yck 87 (rplus p54 p59 _ _ c54 c59 X (2 ^ dN) (X + 2 ^ dN) V11 o54.rd o59.rd rfl rfl (by omega) (by omega) rfl) ?_
    rintro eV12 V12 ⟨p87, c87, rfl, o87, hbV12⟩
    have hzV12 := hbV12.size
    have lo87 := fun h => o87.lt h
    refine ⟨_, rfl, ?_⟩
    replace b9 := (b9.past hbV12)
    refine hKx.out _ _ b9 ?_
    clear hKx Kx
    refine sxr [8] ?_
    refine rd1 (fun Kx hKx => ?_)
    replace b6 := (b6.past (bthru hbV11 hbV12))
    refine yck 92 (refNumber_any f x V5.heap.size V2.heap.size (X + 2 ^ dN) p87 c87 _ (f.g.lo + (e : Int) - 1) V12 o87 (by have := dig16_le_pow (x := X + 2 ^ dN) (n := 122) (k := 8) (plus_lt122 hXlt (by omega) (by omega)) (by omega); omega) (by omega) b9 b6) ?_
    rintro eV13 V13 ⟨pN, cN, rfl, oN, hbV13⟩
    have hzV13 := hbV13.size
    have loN := fun h => oN.lt h
    have hD : f.dec x e X = ⟨2, X + 2 ^ dN, f.g.lo + e - 1⟩ := by unfold Fm.dec; rw [if_neg (by omega), if_neg (by omega), if_neg (by omega), if_neg q78, if_pos qx, qF]
    refine ⟨_, rfl, ?_⟩
    replace b9 := (b9.past hbV13)
    refine hKx.out _ _ b9 ?_
    clear hKx Kx
    refine sxr [10] ?_
    refine rd1 (fun Kx hKx => ?_)
    replace b4 := (b4.past (bthru (bthru (bthru (bthru (bthru (bthru ((bthru (bthru ((bthru hbV2 hbV3).trans (hOV4.below (by omega))) hbV5) hbV6).trans (hOV7.below (by omega))) hbV8) hbV9) hbV10) hbV11) hbV12) hbV13))
    refine ssk none b4 hT61 0 #[.int .i64 (((f.vr x ⟨2, X + 2 ^ dN, f.g.lo + (e : Int) - 1⟩).cls : Nat) : Int), .bool ((f.vr x ⟨2, X + 2 ^ dN, f.g.lo + (e : Int) - 1⟩).neg), .bool ((f.vr x ⟨2, X + 2 ^ dN, f.g.lo + (e : Int) - 1⟩).x.neg), .slice pN (dig B16 (f.vr x ⟨2, X + 2 ^ dN, f.g.lo + (e : Int) - 1⟩).x.m).length cN, .int .i64 ((f.vr x ⟨2, X + 2 ^ dN, f.g.lo + (e : Int) - 1⟩).x.e)] #[.int .i64 (((f.vr x ⟨2, X + 2 ^ dN, f.g.lo + (e : Int) - 1⟩).cls : Nat) : Int), .bool ((f.vr x ⟨2, X + 2 ^ dN, f.g.lo + (e : Int) - 1⟩).neg), .bool ((f.vr x ⟨2, X + 2 ^ dN, f.g.lo + (e : Int) - 1⟩).x.neg), .slice pN (dig B16 (f.vr x ⟨2, X + 2 ^ dN, f.g.lo + (e : Int) - 1⟩).x.m).length cN, .int .i64 ((f.vr x ⟨2, X + 2 ^ dN, f.g.lo + (e : Int) - 1⟩).x.e)] ?_
    have boV14 := b4
    clear b4
    intro V14 hOV14 b4
    have hzV14 := hOV14.size
    replace b9 := (b9.only hOV14 (by omega))
    refine hKx.out _ _ b9 ?_
    clear hKx Kx
    refine yt 0 [11] rfl b9 ?_
    refine sx_done (by kernel_rfl) ?_
    refine sx_then ?_
    refine wp_ret ?_
    repeat (first | with_reducible refine sx_thenret ?_ | with_reducible refine sx_blockret ?_)
    refine yret (.tuple #[.agg #[.int .i64 (((f.vr x ⟨2, X + 2 ^ dN, f.g.lo + (e : Int) - 1⟩).cls : Nat) : Int), .bool ((f.vr x ⟨2, X + 2 ^ dN, f.g.lo + (e : Int) - 1⟩).neg), .bool ((f.vr x ⟨2, X + 2 ^ dN, f.g.lo + (e : Int) - 1⟩).x.neg), .slice pN (dig B16 (f.vr x ⟨2, X + 2 ^ dN, f.g.lo + (e : Int) - 1⟩).x.m).length cN, .int .i64 ((f.vr x ⟨2, X + 2 ^ dN, f.g.lo + (e : Int) - 1⟩).x.e)], .bool x]) (res2 Tryd.results25 (rvr b4 hT61) rvt) ?_
    replace oN := (oN.only hOV14 (fun h => by have := loN h; omega))
    exact givesVrb_of (by rw [hD]) rfl oN (by omega) ((bthru (bthru (bthru (bthru (bthru (bthru ((bthru (bthru ((bthru (bthru hbV1 hbV2) hbV3).trans (hOV4.below (by omega))) hbV5) hbV6).trans (hOV7.below (by omega))) hbV8) hbV9) hbV10) hbV11) hbV12) hbV13).trans (hOV14.below (by omega)))
  refine yb 0 rfl 76 (((f.fam : Nat) : Int) == 3) (false) (f76) ?_
  refine yzt 1 ?_
  refine yF ?_
  refine wp_skip ?_
  refine sx_inblock ?_
  refine sx_then ?_
  refine wp_seq ?_
  have q1 : f.fam = 1 := by have := beq_eq_false_iff_ne.1 f67; have := beq_eq_false_iff_ne.1 f76; omega
  refine ye ?_
  rcases Bool.eq_false_or_eq_true (n == 3) with f95 | f95
  · skip
    refine yb 1 rfl 95 (n == 3) (true) (f95) ?_
    refine yzt 0 ?_
    refine yT ?_
    refine wp_seq ?_
    have qx : f.ext = true := by rw [hext]; exact decide_eq_true (beq_iff_eq.1 f95)
    have qN : dN = 63 := by have := (hextF qx).2.2; omega
    refine ye ?_
    rcases Bool.eq_false_or_eq_true (o) with f96 | f96
    · skip
      refine yb 0 rfl 96 (o) (true) (f96) ?_
      refine yzt 0 ?_
      refine yT ?_
      refine wp_seq ?_
      refine ye ?_
      replace o54 := (o54.past hbV10)
      refine yc 2 rfl 99 (refCmp_any p54 p59 _ _ c54 c59 X (2 ^ dN) V10 o54.rd o59.rd rfl rfl (by omega) (by omega)) (fun Gx hGx => ?_)
      rintro eV11 V11 ⟨rfl, hbV11⟩
      have hzV11 := hbV11.size
      refine ⟨_, rfl, hGx _ _ ?_⟩
      clear hGx Gx
      rcases Bool.eq_false_or_eq_true ((cmpN X (2 ^ dN)) == 0) with f100 | f100
      · skip
        refine yb 0 rfl 100 ((cmpN X (2 ^ dN)) == 0) (true) (f100) ?_
        refine yzt 0 ?_
        refine yT ?_
        refine wp_seq ?_
        replace b9 := (b9.past (bthru (bthru (bthru hbV8 hbV9) hbV10) hbV11))
        obtain ⟨V12, hVV12, hbV12, hzV12⟩ := drew_of V11
        replace b9 := (b9.past hbV12)
        refine yd1 hVV12 b9 ?_
        clear hVV12
        refine ytl 0 rfl 101 (fun _ h => h) hT4 0 b9 ?_
        have hD : f.dec x e X = ⟨3, 0, 0⟩ := by unfold Fm.dec; rw [if_neg (by omega), if_pos ⟨q1, hoE.1 f96⟩, if_pos (.inr ⟨qx, by have := cmpN_zero (beq_iff_eq.1 f100); rw [qN] at this; exact this⟩)]
        refine yt 3 [1] rfl b9 ?_
        refine ytl 2 rfl 103 (fun _ h => h) hT4 0 b9 ?_
        refine sxr [3] ?_
        refine rd1 (fun Kx hKx => ?_)
        replace b4 := (b4.past (bthru (bthru (bthru (bthru (bthru ((bthru (bthru ((bthru hbV2 hbV3).trans (hOV4.below (by omega))) hbV5) hbV6).trans (hOV7.below (by omega))) hbV8) hbV9) hbV10) hbV11) hbV12))
        refine ssk none b4 hT61 0 #[.int .i64 3, .bool x, .bool false, .slice none 0 0, .int .i64 0] #[.int .i64 3, .bool x, .bool false, .slice none 0 0, .int .i64 0] ?_
        have boV13 := b4
        clear b4
        intro V13 hOV13 b4
        have hzV13 := hOV13.size
        replace b9 := (b9.only hOV13 (by omega))
        refine hKx.out _ _ b9 ?_
        clear hKx Kx
        refine yt 0 [4] rfl b9 ?_
        refine sx_done (by kernel_rfl) ?_
        refine sx_then ?_
        refine wp_ret ?_
        repeat (first | with_reducible refine sx_thenret ?_ | with_reducible refine sx_blockret ?_)
        refine yret (.tuple #[.agg #[.int .i64 3, .bool x, .bool false, .slice none 0 0, .int .i64 0], .bool x]) (res2 Tryd.results25 (rvr b4 hT61) rvt) ?_
        exact givesVrb_none (by rw [hD, vr_num f x (by omega), if_pos (by omega)]) rfl ((bthru (bthru (bthru (bthru (bthru ((bthru (bthru ((bthru (bthru hbV1 hbV2) hbV3).trans (hOV4.below (by omega))) hbV5) hbV6).trans (hOV7.below (by omega))) hbV8) hbV9) hbV10) hbV11) hbV12).trans (hOV13.below (by omega)))
      refine yb 0 rfl 100 ((cmpN X (2 ^ dN)) == 0) (false) (f100) ?_
      refine yzt 0 ?_
      refine yF ?_
      refine wp_skip ?_
      refine sx_then ?_
      refine wp_seq ?_
      replace b9 := (b9.past (bthru (bthru (bthru hbV8 hbV9) hbV10) hbV11))
      obtain ⟨V12, hVV12, hbV12, hzV12⟩ := drew_of V11
      replace b9 := (b9.past hbV12)
      refine yd1 hVV12 b9 ?_
      clear hVV12
      have hD : f.dec x e X = ⟨4, 0, 0⟩ := by unfold Fm.dec; rw [if_neg (by omega), if_pos ⟨q1, hoE.1 f96⟩, if_neg (fun h => by rcases h with h | h <;> first | (have k := h.1; rw [qx] at k; cases k; done) | (have k := beq_eq_false_iff_ne.1 f100; apply k; rw [qN, h.2]; exact cmpN_eq _))]
      refine yt 3 [0] rfl b9 ?_
      refine ytl 1 rfl 105 (fun _ h => h) hT4 0 b9 ?_
      refine sxr [2] ?_
      refine rd1 (fun Kx hKx => ?_)
      replace b4 := (b4.past (bthru (bthru (bthru (bthru (bthru ((bthru (bthru ((bthru hbV2 hbV3).trans (hOV4.below (by omega))) hbV5) hbV6).trans (hOV7.below (by omega))) hbV8) hbV9) hbV10) hbV11) hbV12))
      refine ssk none b4 hT61 0 #[.int .i64 4, .bool false, .bool false, .slice none 0 0, .int .i64 0] #[.int .i64 4, .bool false, .bool false, .slice none 0 0, .int .i64 0] ?_
      have boV13 := b4
      clear b4
      intro V13 hOV13 b4
      have hzV13 := hOV13.size
      replace b9 := (b9.only hOV13 (by omega))
      refine hKx.out _ _ b9 ?_
      clear hKx Kx
      refine yt 0 [3] rfl b9 ?_
      refine sx_done (by kernel_rfl) ?_
      refine sx_then ?_
      refine wp_ret ?_
      repeat (first | with_reducible refine sx_thenret ?_ | with_reducible refine sx_blockret ?_)
      refine yret (.tuple #[.agg #[.int .i64 4, .bool false, .bool false, .slice none 0 0, .int .i64 0], .bool x]) (res2 Tryd.results25 (rvr b4 hT61) rvt) ?_
      exact givesVrb_none (by rw [hD, vr_num f x (by omega), if_neg (by omega)]) rfl ((bthru (bthru (bthru (bthru (bthru ((bthru (bthru ((bthru (bthru hbV1 hbV2) hbV3).trans (hOV4.below (by omega))) hbV5) hbV6).trans (hOV7.below (by omega))) hbV8) hbV9) hbV10) hbV11) hbV12).trans (hOV13.below (by omega)))
    refine yb 0 rfl 96 (o) (false) (f96) ?_
    refine yzt 0 ?_
    refine yF ?_
    refine wp_skip ?_
    refine sx_then ?_
    refine wp_seq ?_
    have qo : ¬ (f.fam = 1 ∧ e = 2 ^ f.E - 1) := fun h => by have k := hoE.2 h.2; first | (rw [f96] at k; cases k; done)
    refine ye ?_
    rcases Bool.eq_false_or_eq_true (decide (((e : Nat) : Int) > 0)) with f107 | f107
    · skip
      refine yb 1 rfl 107 (decide (((e : Nat) : Int) > 0)) (true) (f107) ?_
      replace o54 := (o54.past hbV10)
      refine yc 3 rfl 111 (refCmp_any p54 p59 _ _ c54 c59 X (2 ^ dN) V10 o54.rd o59.rd rfl rfl (by omega) (by omega)) (fun Gx hGx => ?_)
      rintro eV11 V11 ⟨rfl, hbV11⟩
      have hzV11 := hbV11.size
      refine ⟨_, rfl, hGx _ _ ?_⟩
      clear hGx Gx
      rcases Bool.eq_false_or_eq_true (decide ((cmpN X (2 ^ dN)) < 0)) with f112 | f112
      · skip
        refine yb 0 rfl 112 (decide ((cmpN X (2 ^ dN)) < 0)) (true) (f112) ?_
        refine yzt 1 ?_
        refine yT ?_
        refine wp_seq ?_
        replace b9 := (b9.past (bthru (bthru (bthru hbV8 hbV9) hbV10) hbV11))
        obtain ⟨V12, hVV12, hbV12, hzV12⟩ := drew_of V11
        replace b9 := (b9.past hbV12)
        refine yd1 hVV12 b9 ?_
        clear hVV12
        have hD : f.dec x e X = ⟨4, 0, 0⟩ := by unfold Fm.dec; rw [if_neg (by omega), if_neg qo, if_neg (by omega), if_neg (by have := of_decide_eq_true f107; omega), if_neg (by rw [qx]; simp), if_pos (by have k := cmpN_neg (of_decide_eq_true f112); rw [qN] at k; exact k)]
        refine yt 3 [0] rfl b9 ?_
        refine ytl 1 rfl 115 (fun _ h => h) hT4 0 b9 ?_
        refine sxr [2] ?_
        refine rd1 (fun Kx hKx => ?_)
        replace b4 := (b4.past (bthru (bthru (bthru (bthru (bthru ((bthru (bthru ((bthru hbV2 hbV3).trans (hOV4.below (by omega))) hbV5) hbV6).trans (hOV7.below (by omega))) hbV8) hbV9) hbV10) hbV11) hbV12))
        refine ssk none b4 hT61 0 #[.int .i64 4, .bool false, .bool false, .slice none 0 0, .int .i64 0] #[.int .i64 4, .bool false, .bool false, .slice none 0 0, .int .i64 0] ?_
        have boV13 := b4
        clear b4
        intro V13 hOV13 b4
        have hzV13 := hOV13.size
        replace b9 := (b9.only hOV13 (by omega))
        refine hKx.out _ _ b9 ?_
        clear hKx Kx
        refine yt 0 [3] rfl b9 ?_
        refine sx_done (by kernel_rfl) ?_
        refine sx_then ?_
        refine wp_ret ?_
        repeat (first | with_reducible refine sx_thenret ?_ | with_reducible refine sx_blockret ?_)
        refine yret (.tuple #[.agg #[.int .i64 4, .bool false, .bool false, .slice none 0 0, .int .i64 0], .bool x]) (res2 Tryd.results25 (rvr b4 hT61) rvt) ?_
        exact givesVrb_none (by rw [hD, vr_num f x (by omega), if_neg (by omega)]) rfl ((bthru (bthru (bthru (bthru (bthru ((bthru (bthru ((bthru (bthru hbV1 hbV2) hbV3).trans (hOV4.below (by omega))) hbV5) hbV6).trans (hOV7.below (by omega))) hbV8) hbV9) hbV10) hbV11) hbV12).trans (hOV13.below (by omega)))
      refine yb 0 rfl 112 (decide ((cmpN X (2 ^ dN)) < 0)) (false) (f112) ?_
      refine yzt 1 ?_
      refine yF ?_
      refine wp_skip ?_
      refine sx_then ?_
      refine wp_seq ?_
      replace b9 := (b9.past (bthru (bthru (bthru hbV8 hbV9) hbV10) hbV11))
      obtain ⟨V12, hVV12, hbV12, hzV12⟩ := drew_of V11
      replace b9 := (b9.past hbV12)
      refine yd1 hVV12 b9 ?_
      clear hVV12
      refine yt 7 [0, 1, 2, 3] rfl b9 ?_
      refine tk 4 120 (.int .i64 (((e : Nat) : Int) - 1)) b9 ?_ (hy := fun w' _ => ((show _ = Result.ok (Next.value (.int .i64 (IntKind.wrap .i64 (((e : Nat) : Int) - 1)))) _ by kernel_rfl).trans (congrArg (fun z => Result.ok (Next.value (.int .i64 z)) _) (IntWalk.i64_in _ (by omega)))))
      refine tk 5 121 (.int .i64 ((e - 1 : Nat) : Int)) b9 ?_ (hy := fun w' _ => ((show _ = Result.ok (Next.value (.int .i64 (if (((((e : Nat) : Int) - 1)) : Int) > (0) then (((e : Nat) : Int) - 1) else 0))) _ by kernel_rfl).trans (congrArg (fun z => Result.ok (Next.value (.int .i64 z)) _) ((by split <;> omega)))))
      refine tk 6 122 (.int .i64 (f.g.lo + ((e - 1 : Nat) : Int))) b9 ?_ (hy := fun w' _ => ((show _ = Result.ok (Next.value (.int .i64 (IntKind.wrap .i64 (f.g.lo + ((e - 1 : Nat) : Int))))) _ by kernel_rfl).trans (congrArg (fun z => Result.ok (Next.value (.int .i64 z)) _) (IntWalk.i64_in _ (by omega)))))
      refine ytl 8 rfl 124 (fun _ h => h) hT4 0 b9 ?_
      refine sxr [7] ?_
      refine rd1 (fun Kx hKx => ?_)
      replace o54 := (o54.past (bthru hbV11 hbV12))
      replace b6 := (b6.past (bthru hbV11 hbV12))
      refine yck 123 (refNumber_any f x V5.heap.size V2.heap.size X p54 c54 _ (f.g.lo + ((e - 1 : Nat) : Int)) V12 o54 (by omega) (by omega) b9 b6) ?_
      rintro eV13 V13 ⟨pN, cN, rfl, oN, hbV13⟩
      have hzV13 := hbV13.size
      have loN := fun h => oN.lt h
      have hD : f.dec x e X = ⟨2, X, f.g.lo + ((e - 1 : Nat) : Int)⟩ := by unfold Fm.dec; rw [if_neg (by omega), if_neg qo, if_neg (by omega), if_neg (by have := of_decide_eq_true f107; omega), if_neg (by rw [qx]; simp), if_neg (by have k := cmpN_nonneg (of_decide_eq_false f112); rw [qN] at k; exact k)]; simp only [Dc.mk.injEq, true_and]; have := of_decide_eq_true f107; omega
      refine ⟨_, rfl, ?_⟩
      replace b9 := (b9.past hbV13)
      refine hKx.out _ _ b9 ?_
      clear hKx Kx
      refine sxr [9] ?_
      refine rd1 (fun Kx hKx => ?_)
      replace b4 := (b4.past (bthru (bthru (bthru (bthru (bthru (bthru ((bthru (bthru ((bthru hbV2 hbV3).trans (hOV4.below (by omega))) hbV5) hbV6).trans (hOV7.below (by omega))) hbV8) hbV9) hbV10) hbV11) hbV12) hbV13))
      refine ssk none b4 hT61 0 #[.int .i64 (((f.vr x ⟨2, X, f.g.lo + ((e - 1 : Nat) : Int)⟩).cls : Nat) : Int), .bool ((f.vr x ⟨2, X, f.g.lo + ((e - 1 : Nat) : Int)⟩).neg), .bool ((f.vr x ⟨2, X, f.g.lo + ((e - 1 : Nat) : Int)⟩).x.neg), .slice pN (dig B16 (f.vr x ⟨2, X, f.g.lo + ((e - 1 : Nat) : Int)⟩).x.m).length cN, .int .i64 ((f.vr x ⟨2, X, f.g.lo + ((e - 1 : Nat) : Int)⟩).x.e)] #[.int .i64 (((f.vr x ⟨2, X, f.g.lo + ((e - 1 : Nat) : Int)⟩).cls : Nat) : Int), .bool ((f.vr x ⟨2, X, f.g.lo + ((e - 1 : Nat) : Int)⟩).neg), .bool ((f.vr x ⟨2, X, f.g.lo + ((e - 1 : Nat) : Int)⟩).x.neg), .slice pN (dig B16 (f.vr x ⟨2, X, f.g.lo + ((e - 1 : Nat) : Int)⟩).x.m).length cN, .int .i64 ((f.vr x ⟨2, X, f.g.lo + ((e - 1 : Nat) : Int)⟩).x.e)] ?_
      have boV14 := b4
      clear b4
      intro V14 hOV14 b4
      have hzV14 := hOV14.size
      replace b9 := (b9.only hOV14 (by omega))
      refine hKx.out _ _ b9 ?_
      clear hKx Kx
      refine yt 0 [10] rfl b9 ?_
      refine sx_done (by kernel_rfl) ?_
      refine sx_then ?_
      refine wp_ret ?_
      repeat (first | with_reducible refine sx_thenret ?_ | with_reducible refine sx_blockret ?_)
      refine yret (.tuple #[.agg #[.int .i64 (((f.vr x ⟨2, X, f.g.lo + ((e - 1 : Nat) : Int)⟩).cls : Nat) : Int), .bool ((f.vr x ⟨2, X, f.g.lo + ((e - 1 : Nat) : Int)⟩).neg), .bool ((f.vr x ⟨2, X, f.g.lo + ((e - 1 : Nat) : Int)⟩).x.neg), .slice pN (dig B16 (f.vr x ⟨2, X, f.g.lo + ((e - 1 : Nat) : Int)⟩).x.m).length cN, .int .i64 ((f.vr x ⟨2, X, f.g.lo + ((e - 1 : Nat) : Int)⟩).x.e)], .bool x]) (res2 Tryd.results25 (rvr b4 hT61) rvt) ?_
      replace oN := (oN.only hOV14 (fun h => by have := loN h; omega))
      exact givesVrb_of (by rw [hD]) rfl oN (by omega) ((bthru (bthru (bthru (bthru (bthru (bthru ((bthru (bthru ((bthru (bthru hbV1 hbV2) hbV3).trans (hOV4.below (by omega))) hbV5) hbV6).trans (hOV7.below (by omega))) hbV8) hbV9) hbV10) hbV11) hbV12) hbV13).trans (hOV14.below (by omega)))
    refine yb 1 rfl 107 (decide (((e : Nat) : Int) > 0)) (false) (f107) ?_
    refine yzt 6 ?_
    refine yF ?_
    refine wp_skip ?_
    refine sx_then ?_
    refine wp_seq ?_
    replace b9 := (b9.past (bthru (bthru hbV8 hbV9) hbV10))
    obtain ⟨V11, hVV11, hbV11, hzV11⟩ := drew_of V10
    replace b9 := (b9.past hbV11)
    refine yd1 hVV11 b9 ?_
    clear hVV11
    refine yt 7 [0, 1, 2, 3] rfl b9 ?_
    refine tk 4 120 (.int .i64 (((e : Nat) : Int) - 1)) b9 ?_ (hy := fun w' _ => ((show _ = Result.ok (Next.value (.int .i64 (IntKind.wrap .i64 (((e : Nat) : Int) - 1)))) _ by kernel_rfl).trans (congrArg (fun z => Result.ok (Next.value (.int .i64 z)) _) (IntWalk.i64_in _ (by omega)))))
    refine tk 5 121 (.int .i64 ((e - 1 : Nat) : Int)) b9 ?_ (hy := fun w' _ => ((show _ = Result.ok (Next.value (.int .i64 (if (((((e : Nat) : Int) - 1)) : Int) > (0) then (((e : Nat) : Int) - 1) else 0))) _ by kernel_rfl).trans (congrArg (fun z => Result.ok (Next.value (.int .i64 z)) _) ((by split <;> omega)))))
    refine tk 6 122 (.int .i64 (f.g.lo + ((e - 1 : Nat) : Int))) b9 ?_ (hy := fun w' _ => ((show _ = Result.ok (Next.value (.int .i64 (IntKind.wrap .i64 (f.g.lo + ((e - 1 : Nat) : Int))))) _ by kernel_rfl).trans (congrArg (fun z => Result.ok (Next.value (.int .i64 z)) _) (IntWalk.i64_in _ (by omega)))))
    refine ytl 8 rfl 124 (fun _ h => h) hT4 0 b9 ?_
    refine sxr [7] ?_
    refine rd1 (fun Kx hKx => ?_)
    replace o54 := (o54.past (bthru hbV10 hbV11))
    replace b6 := (b6.past hbV11)
    refine yck 123 (refNumber_any f x V5.heap.size V2.heap.size X p54 c54 _ (f.g.lo + ((e - 1 : Nat) : Int)) V11 o54 (by omega) (by omega) b9 b6) ?_
    rintro eV12 V12 ⟨pN, cN, rfl, oN, hbV12⟩
    have hzV12 := hbV12.size
    have loN := fun h => oN.lt h
    have hD : f.dec x e X = ⟨2, X, f.g.lo + ((e - 1 : Nat) : Int)⟩ := by unfold Fm.dec; rw [if_neg (by omega), if_neg qo, if_neg (by omega), if_pos (by have := of_decide_eq_false f107; omega)]; simp only [Dc.mk.injEq, true_and]; have := of_decide_eq_false f107; omega
    refine ⟨_, rfl, ?_⟩
    replace b9 := (b9.past hbV12)
    refine hKx.out _ _ b9 ?_
    clear hKx Kx
    refine sxr [9] ?_
    refine rd1 (fun Kx hKx => ?_)
    replace b4 := (b4.past (bthru (bthru (bthru (bthru (bthru ((bthru (bthru ((bthru hbV2 hbV3).trans (hOV4.below (by omega))) hbV5) hbV6).trans (hOV7.below (by omega))) hbV8) hbV9) hbV10) hbV11) hbV12))
    refine ssk none b4 hT61 0 #[.int .i64 (((f.vr x ⟨2, X, f.g.lo + ((e - 1 : Nat) : Int)⟩).cls : Nat) : Int), .bool ((f.vr x ⟨2, X, f.g.lo + ((e - 1 : Nat) : Int)⟩).neg), .bool ((f.vr x ⟨2, X, f.g.lo + ((e - 1 : Nat) : Int)⟩).x.neg), .slice pN (dig B16 (f.vr x ⟨2, X, f.g.lo + ((e - 1 : Nat) : Int)⟩).x.m).length cN, .int .i64 ((f.vr x ⟨2, X, f.g.lo + ((e - 1 : Nat) : Int)⟩).x.e)] #[.int .i64 (((f.vr x ⟨2, X, f.g.lo + ((e - 1 : Nat) : Int)⟩).cls : Nat) : Int), .bool ((f.vr x ⟨2, X, f.g.lo + ((e - 1 : Nat) : Int)⟩).neg), .bool ((f.vr x ⟨2, X, f.g.lo + ((e - 1 : Nat) : Int)⟩).x.neg), .slice pN (dig B16 (f.vr x ⟨2, X, f.g.lo + ((e - 1 : Nat) : Int)⟩).x.m).length cN, .int .i64 ((f.vr x ⟨2, X, f.g.lo + ((e - 1 : Nat) : Int)⟩).x.e)] ?_
    have boV13 := b4
    clear b4
    intro V13 hOV13 b4
    have hzV13 := hOV13.size
    replace b9 := (b9.only hOV13 (by omega))
    refine hKx.out _ _ b9 ?_
    clear hKx Kx
    refine yt 0 [10] rfl b9 ?_
    refine sx_done (by kernel_rfl) ?_
    refine sx_then ?_
    refine wp_ret ?_
    repeat (first | with_reducible refine sx_thenret ?_ | with_reducible refine sx_blockret ?_)
    refine yret (.tuple #[.agg #[.int .i64 (((f.vr x ⟨2, X, f.g.lo + ((e - 1 : Nat) : Int)⟩).cls : Nat) : Int), .bool ((f.vr x ⟨2, X, f.g.lo + ((e - 1 : Nat) : Int)⟩).neg), .bool ((f.vr x ⟨2, X, f.g.lo + ((e - 1 : Nat) : Int)⟩).x.neg), .slice pN (dig B16 (f.vr x ⟨2, X, f.g.lo + ((e - 1 : Nat) : Int)⟩).x.m).length cN, .int .i64 ((f.vr x ⟨2, X, f.g.lo + ((e - 1 : Nat) : Int)⟩).x.e)], .bool x]) (res2 Tryd.results25 (rvr b4 hT61) rvt) ?_
    replace oN := (oN.only hOV13 (fun h => by have := loN h; omega))
    exact givesVrb_of (by rw [hD]) rfl oN (by omega) ((bthru (bthru (bthru (bthru (bthru ((bthru (bthru ((bthru (bthru hbV1 hbV2) hbV3).trans (hOV4.below (by omega))) hbV5) hbV6).trans (hOV7.below (by omega))) hbV8) hbV9) hbV10) hbV11) hbV12).trans (hOV13.below (by omega)))
  refine yb 1 rfl 95 (n == 3) (false) (f95) ?_
  refine yzt 0 ?_
  refine yF ?_
  refine wp_skip ?_
  refine sx_then ?_
  refine wp_seq ?_
  have qx : f.ext = false := by rw [hext]; exact decide_eq_false (beq_eq_false_iff_ne.1 f95)
  have qF : dN = f.F := by have := hd1F (by omega) qx; omega
  refine ye ?_
  rcases Bool.eq_false_or_eq_true (o) with f125 | f125
  · skip
    refine yb 0 rfl 125 (o) (true) (f125) ?_
    refine yzt 0 ?_
    refine yT ?_
    refine wp_seq ?_
    refine ye ?_
    rcases Bool.eq_false_or_eq_true ((((dig B16 X).length : Nat) : Int) == 0) with f128 | f128
    · skip
      refine yb 2 rfl 128 ((((dig B16 X).length : Nat) : Int) == 0) (true) (f128) ?_
      refine yzt 0 ?_
      refine yT ?_
      refine wp_seq ?_
      replace b9 := (b9.past (bthru (bthru hbV8 hbV9) hbV10))
      obtain ⟨V11, hVV11, hbV11, hzV11⟩ := drew_of V10
      replace b9 := (b9.past hbV11)
      refine yd1 hVV11 b9 ?_
      clear hVV11
      refine ytl 0 rfl 129 (fun _ h => h) hT4 0 b9 ?_
      have hD : f.dec x e X = ⟨3, 0, 0⟩ := by unfold Fm.dec; rw [if_neg (by omega), if_pos ⟨q1, hoE.1 f125⟩, if_pos (.inl ⟨qx, hX0.1 (by have := beq_iff_eq.1 f128; omega)⟩)]
      refine yt 3 [1] rfl b9 ?_
      refine ytl 2 rfl 131 (fun _ h => h) hT4 0 b9 ?_
      refine sxr [3] ?_
      refine rd1 (fun Kx hKx => ?_)
      replace b4 := (b4.past (bthru (bthru (bthru (bthru ((bthru (bthru ((bthru hbV2 hbV3).trans (hOV4.below (by omega))) hbV5) hbV6).trans (hOV7.below (by omega))) hbV8) hbV9) hbV10) hbV11))
      refine ssk none b4 hT61 0 #[.int .i64 3, .bool x, .bool false, .slice none 0 0, .int .i64 0] #[.int .i64 3, .bool x, .bool false, .slice none 0 0, .int .i64 0] ?_
      have boV12 := b4
      clear b4
      intro V12 hOV12 b4
      have hzV12 := hOV12.size
      replace b9 := (b9.only hOV12 (by omega))
      refine hKx.out _ _ b9 ?_
      clear hKx Kx
      refine yt 0 [4] rfl b9 ?_
      refine sx_done (by kernel_rfl) ?_
      refine sx_then ?_
      refine wp_ret ?_
      repeat (first | with_reducible refine sx_thenret ?_ | with_reducible refine sx_blockret ?_)
      refine yret (.tuple #[.agg #[.int .i64 3, .bool x, .bool false, .slice none 0 0, .int .i64 0], .bool x]) (res2 Tryd.results25 (rvr b4 hT61) rvt) ?_
      exact givesVrb_none (by rw [hD, vr_num f x (by omega), if_pos (by omega)]) rfl ((bthru (bthru (bthru (bthru ((bthru (bthru ((bthru (bthru hbV1 hbV2) hbV3).trans (hOV4.below (by omega))) hbV5) hbV6).trans (hOV7.below (by omega))) hbV8) hbV9) hbV10) hbV11).trans (hOV12.below (by omega)))
    refine yb 2 rfl 128 ((((dig B16 X).length : Nat) : Int) == 0) (false) (f128) ?_
    refine yzt 0 ?_
    refine yF ?_
    refine wp_skip ?_
    refine sx_then ?_
    refine wp_seq ?_
    replace b9 := (b9.past (bthru (bthru hbV8 hbV9) hbV10))
    obtain ⟨V11, hVV11, hbV11, hzV11⟩ := drew_of V10
    replace b9 := (b9.past hbV11)
    refine yd1 hVV11 b9 ?_
    clear hVV11
    have hD : f.dec x e X = ⟨4, 0, 0⟩ := by unfold Fm.dec; rw [if_neg (by omega), if_pos ⟨q1, hoE.1 f125⟩, if_neg (fun h => by rcases h with h | h <;> first | (have k := h.1; rw [qx] at k; cases k; done) | (have k := beq_eq_false_iff_ne.1 f128; have k2 := hX0.2 h.2; omega))]
    refine yt 3 [0] rfl b9 ?_
    refine ytl 1 rfl 133 (fun _ h => h) hT4 0 b9 ?_
    refine sxr [2] ?_
    refine rd1 (fun Kx hKx => ?_)
    replace b4 := (b4.past (bthru (bthru (bthru (bthru ((bthru (bthru ((bthru hbV2 hbV3).trans (hOV4.below (by omega))) hbV5) hbV6).trans (hOV7.below (by omega))) hbV8) hbV9) hbV10) hbV11))
    refine ssk none b4 hT61 0 #[.int .i64 4, .bool false, .bool false, .slice none 0 0, .int .i64 0] #[.int .i64 4, .bool false, .bool false, .slice none 0 0, .int .i64 0] ?_
    have boV12 := b4
    clear b4
    intro V12 hOV12 b4
    have hzV12 := hOV12.size
    replace b9 := (b9.only hOV12 (by omega))
    refine hKx.out _ _ b9 ?_
    clear hKx Kx
    refine yt 0 [3] rfl b9 ?_
    refine sx_done (by kernel_rfl) ?_
    refine sx_then ?_
    refine wp_ret ?_
    repeat (first | with_reducible refine sx_thenret ?_ | with_reducible refine sx_blockret ?_)
    refine yret (.tuple #[.agg #[.int .i64 4, .bool false, .bool false, .slice none 0 0, .int .i64 0], .bool x]) (res2 Tryd.results25 (rvr b4 hT61) rvt) ?_
    exact givesVrb_none (by rw [hD, vr_num f x (by omega), if_neg (by omega)]) rfl ((bthru (bthru (bthru (bthru ((bthru (bthru ((bthru (bthru hbV1 hbV2) hbV3).trans (hOV4.below (by omega))) hbV5) hbV6).trans (hOV7.below (by omega))) hbV8) hbV9) hbV10) hbV11).trans (hOV12.below (by omega)))
  refine yb 0 rfl 125 (o) (false) (f125) ?_
  refine yzt 0 ?_
  refine yF ?_
  refine wp_skip ?_
  refine sx_then ?_
  refine wp_seq ?_
  have qo : ¬ (f.fam = 1 ∧ e = 2 ^ f.E - 1) := fun h => by have k := hoE.2 h.2; rw [f125] at k; cases k
  refine ye ?_
  rcases Bool.eq_false_or_eq_true (decide (((e : Nat) : Int) > 0)) with f135 | f135
  · skip
    refine yb 1 rfl 135 (decide (((e : Nat) : Int) > 0)) (true) (f135) ?_
    refine yzt 0 ?_
    refine yT ?_
    refine sx_region ?_
    replace o54 := (o54.past hbV10)
    refine yc 2 rfl 138 (rplus p54 p59 _ _ c54 c59 X (2 ^ dN) (X + 2 ^ dN) V10 o54.rd o59.rd rfl rfl (by omega) (by omega) rfl) (fun Gx hGx => ?_)
    rintro eV11 V11 ⟨p138, c138, rfl, o138, hbV11⟩
    have hzV11 := hbV11.size
    have lo138 := fun h => o138.lt h
    refine ⟨_, rfl, hGx _ _ ?_⟩
    clear hGx Gx
    refine yz 1 ?_
    refine sx_then ?_
    refine wp_seq ?_
    replace b9 := (b9.past (bthru (bthru (bthru hbV8 hbV9) hbV10) hbV11))
    obtain ⟨V12, hVV12, hbV12, hzV12⟩ := drew_of V11
    replace b9 := (b9.past hbV12)
    refine yd1 hVV12 b9 ?_
    clear hVV12
    refine yt 7 [0, 1, 2, 3] rfl b9 ?_
    refine tk 4 143 (.int .i64 (((e : Nat) : Int) - 1)) b9 ?_ (hy := fun w' _ => ((show _ = Result.ok (Next.value (.int .i64 (IntKind.wrap .i64 (((e : Nat) : Int) - 1)))) _ by kernel_rfl).trans (congrArg (fun z => Result.ok (Next.value (.int .i64 z)) _) (IntWalk.i64_in _ (by omega)))))
    refine tk 5 144 (.int .i64 ((e - 1 : Nat) : Int)) b9 ?_ (hy := fun w' _ => ((show _ = Result.ok (Next.value (.int .i64 (if (((((e : Nat) : Int) - 1)) : Int) > (0) then (((e : Nat) : Int) - 1) else 0))) _ by kernel_rfl).trans (congrArg (fun z => Result.ok (Next.value (.int .i64 z)) _) ((by split <;> omega)))))
    refine tk 6 145 (.int .i64 (f.g.lo + ((e - 1 : Nat) : Int))) b9 ?_ (hy := fun w' _ => ((show _ = Result.ok (Next.value (.int .i64 (IntKind.wrap .i64 (f.g.lo + ((e - 1 : Nat) : Int))))) _ by kernel_rfl).trans (congrArg (fun z => Result.ok (Next.value (.int .i64 z)) _) (IntWalk.i64_in _ (by omega)))))
    refine ytl 8 rfl 147 (fun _ h => h) hT4 0 b9 ?_
    refine sxr [7] ?_
    refine rd1 (fun Kx hKx => ?_)
    replace o138 := (o138.past hbV12)
    replace b6 := (b6.past (bthru hbV11 hbV12))
    refine yck 146 (refNumber_any f x V5.heap.size V2.heap.size (X + 2 ^ dN) p138 c138 _ (f.g.lo + ((e - 1 : Nat) : Int)) V12 o138 (by have := dig16_le_pow (x := X + 2 ^ dN) (n := 122) (k := 8) (plus_lt122 hXlt (by omega) (by omega)) (by omega); omega) (by omega) b9 b6) ?_
    rintro eV13 V13 ⟨pN, cN, rfl, oN, hbV13⟩
    have hzV13 := hbV13.size
    have loN := fun h => oN.lt h
    have hD : f.dec x e X = ⟨2, X + 2 ^ dN, f.g.lo + ((e - 1 : Nat) : Int)⟩ := by unfold Fm.dec; rw [if_neg (by omega), if_neg qo, if_neg (by omega), if_neg (by have := of_decide_eq_true f135; omega), if_pos qx, qF]; simp only [Dc.mk.injEq, true_and]; have := of_decide_eq_true f135; omega
    refine ⟨_, rfl, ?_⟩
    replace b9 := (b9.past hbV13)
    refine hKx.out _ _ b9 ?_
    clear hKx Kx
    refine sxr [9] ?_
    refine rd1 (fun Kx hKx => ?_)
    replace b4 := (b4.past (bthru (bthru (bthru (bthru (bthru (bthru ((bthru (bthru ((bthru hbV2 hbV3).trans (hOV4.below (by omega))) hbV5) hbV6).trans (hOV7.below (by omega))) hbV8) hbV9) hbV10) hbV11) hbV12) hbV13))
    refine ssk none b4 hT61 0 #[.int .i64 (((f.vr x ⟨2, X + 2 ^ dN, f.g.lo + ((e - 1 : Nat) : Int)⟩).cls : Nat) : Int), .bool ((f.vr x ⟨2, X + 2 ^ dN, f.g.lo + ((e - 1 : Nat) : Int)⟩).neg), .bool ((f.vr x ⟨2, X + 2 ^ dN, f.g.lo + ((e - 1 : Nat) : Int)⟩).x.neg), .slice pN (dig B16 (f.vr x ⟨2, X + 2 ^ dN, f.g.lo + ((e - 1 : Nat) : Int)⟩).x.m).length cN, .int .i64 ((f.vr x ⟨2, X + 2 ^ dN, f.g.lo + ((e - 1 : Nat) : Int)⟩).x.e)] #[.int .i64 (((f.vr x ⟨2, X + 2 ^ dN, f.g.lo + ((e - 1 : Nat) : Int)⟩).cls : Nat) : Int), .bool ((f.vr x ⟨2, X + 2 ^ dN, f.g.lo + ((e - 1 : Nat) : Int)⟩).neg), .bool ((f.vr x ⟨2, X + 2 ^ dN, f.g.lo + ((e - 1 : Nat) : Int)⟩).x.neg), .slice pN (dig B16 (f.vr x ⟨2, X + 2 ^ dN, f.g.lo + ((e - 1 : Nat) : Int)⟩).x.m).length cN, .int .i64 ((f.vr x ⟨2, X + 2 ^ dN, f.g.lo + ((e - 1 : Nat) : Int)⟩).x.e)] ?_
    have boV14 := b4
    clear b4
    intro V14 hOV14 b4
    have hzV14 := hOV14.size
    replace b9 := (b9.only hOV14 (by omega))
    refine hKx.out _ _ b9 ?_
    clear hKx Kx
    refine yt 0 [10] rfl b9 ?_
    refine sx_done (by kernel_rfl) ?_
    refine sx_then ?_
    refine wp_ret ?_
    repeat (first | with_reducible refine sx_thenret ?_ | with_reducible refine sx_blockret ?_)
    refine yret (.tuple #[.agg #[.int .i64 (((f.vr x ⟨2, X + 2 ^ dN, f.g.lo + ((e - 1 : Nat) : Int)⟩).cls : Nat) : Int), .bool ((f.vr x ⟨2, X + 2 ^ dN, f.g.lo + ((e - 1 : Nat) : Int)⟩).neg), .bool ((f.vr x ⟨2, X + 2 ^ dN, f.g.lo + ((e - 1 : Nat) : Int)⟩).x.neg), .slice pN (dig B16 (f.vr x ⟨2, X + 2 ^ dN, f.g.lo + ((e - 1 : Nat) : Int)⟩).x.m).length cN, .int .i64 ((f.vr x ⟨2, X + 2 ^ dN, f.g.lo + ((e - 1 : Nat) : Int)⟩).x.e)], .bool x]) (res2 Tryd.results25 (rvr b4 hT61) rvt) ?_
    replace oN := (oN.only hOV14 (fun h => by have := loN h; omega))
    exact givesVrb_of (by rw [hD]) rfl oN (by omega) ((bthru (bthru (bthru (bthru (bthru (bthru ((bthru (bthru ((bthru (bthru hbV1 hbV2) hbV3).trans (hOV4.below (by omega))) hbV5) hbV6).trans (hOV7.below (by omega))) hbV8) hbV9) hbV10) hbV11) hbV12) hbV13).trans (hOV14.below (by omega)))
  refine yb 1 rfl 135 (decide (((e : Nat) : Int) > 0)) (false) (f135) ?_
  refine yzt 0 ?_
  refine yF ?_
  refine wp_skip ?_
  refine sx_then ?_
  refine wp_seq ?_
  replace b9 := (b9.past (bthru (bthru hbV8 hbV9) hbV10))
  obtain ⟨V11, hVV11, hbV11, hzV11⟩ := drew_of V10
  replace b9 := (b9.past hbV11)
  refine yd1 hVV11 b9 ?_
  clear hVV11
  refine yt 7 [0, 1, 2, 3] rfl b9 ?_
  refine tk 4 143 (.int .i64 (((e : Nat) : Int) - 1)) b9 ?_ (hy := fun w' _ => ((show _ = Result.ok (Next.value (.int .i64 (IntKind.wrap .i64 (((e : Nat) : Int) - 1)))) _ by kernel_rfl).trans (congrArg (fun z => Result.ok (Next.value (.int .i64 z)) _) (IntWalk.i64_in _ (by omega)))))
  refine tk 5 144 (.int .i64 ((e - 1 : Nat) : Int)) b9 ?_ (hy := fun w' _ => ((show _ = Result.ok (Next.value (.int .i64 (if (((((e : Nat) : Int) - 1)) : Int) > (0) then (((e : Nat) : Int) - 1) else 0))) _ by kernel_rfl).trans (congrArg (fun z => Result.ok (Next.value (.int .i64 z)) _) ((by split <;> omega)))))
  refine tk 6 145 (.int .i64 (f.g.lo + ((e - 1 : Nat) : Int))) b9 ?_ (hy := fun w' _ => ((show _ = Result.ok (Next.value (.int .i64 (IntKind.wrap .i64 (f.g.lo + ((e - 1 : Nat) : Int))))) _ by kernel_rfl).trans (congrArg (fun z => Result.ok (Next.value (.int .i64 z)) _) (IntWalk.i64_in _ (by omega)))))
  refine ytl 8 rfl 147 (fun _ h => h) hT4 0 b9 ?_
  refine sxr [7] ?_
  refine rd1 (fun Kx hKx => ?_)
  replace o54 := (o54.past (bthru hbV10 hbV11))
  replace b6 := (b6.past hbV11)
  refine yck 146 (refNumber_any f x V5.heap.size V2.heap.size X p54 c54 _ (f.g.lo + ((e - 1 : Nat) : Int)) V11 o54 (by omega) (by omega) b9 b6) ?_
  rintro eV12 V12 ⟨pN, cN, rfl, oN, hbV12⟩
  have hzV12 := hbV12.size
  have loN := fun h => oN.lt h
  have hD : f.dec x e X = ⟨2, X, f.g.lo + ((e - 1 : Nat) : Int)⟩ := by unfold Fm.dec; rw [if_neg (by omega), if_neg qo, if_neg (by omega), if_pos (by have := of_decide_eq_false f135; omega)]; simp only [Dc.mk.injEq, true_and]; have := of_decide_eq_false f135; omega
  refine ⟨_, rfl, ?_⟩
  replace b9 := (b9.past hbV12)
  refine hKx.out _ _ b9 ?_
  clear hKx Kx
  refine sxr [9] ?_
  refine rd1 (fun Kx hKx => ?_)
  replace b4 := (b4.past (bthru (bthru (bthru (bthru (bthru ((bthru (bthru ((bthru hbV2 hbV3).trans (hOV4.below (by omega))) hbV5) hbV6).trans (hOV7.below (by omega))) hbV8) hbV9) hbV10) hbV11) hbV12))
  refine ssk none b4 hT61 0 #[.int .i64 (((f.vr x ⟨2, X, f.g.lo + ((e - 1 : Nat) : Int)⟩).cls : Nat) : Int), .bool ((f.vr x ⟨2, X, f.g.lo + ((e - 1 : Nat) : Int)⟩).neg), .bool ((f.vr x ⟨2, X, f.g.lo + ((e - 1 : Nat) : Int)⟩).x.neg), .slice pN (dig B16 (f.vr x ⟨2, X, f.g.lo + ((e - 1 : Nat) : Int)⟩).x.m).length cN, .int .i64 ((f.vr x ⟨2, X, f.g.lo + ((e - 1 : Nat) : Int)⟩).x.e)] #[.int .i64 (((f.vr x ⟨2, X, f.g.lo + ((e - 1 : Nat) : Int)⟩).cls : Nat) : Int), .bool ((f.vr x ⟨2, X, f.g.lo + ((e - 1 : Nat) : Int)⟩).neg), .bool ((f.vr x ⟨2, X, f.g.lo + ((e - 1 : Nat) : Int)⟩).x.neg), .slice pN (dig B16 (f.vr x ⟨2, X, f.g.lo + ((e - 1 : Nat) : Int)⟩).x.m).length cN, .int .i64 ((f.vr x ⟨2, X, f.g.lo + ((e - 1 : Nat) : Int)⟩).x.e)] ?_
  have boV13 := b4
  clear b4
  intro V13 hOV13 b4
  have hzV13 := hOV13.size
  replace b9 := (b9.only hOV13 (by omega))
  refine hKx.out _ _ b9 ?_
  clear hKx Kx
  refine yt 0 [10] rfl b9 ?_
  refine sx_done (by kernel_rfl) ?_
  refine sx_then ?_
  refine wp_ret ?_
  repeat (first | with_reducible refine sx_thenret ?_ | with_reducible refine sx_blockret ?_)
  refine yret (.tuple #[.agg #[.int .i64 (((f.vr x ⟨2, X, f.g.lo + ((e - 1 : Nat) : Int)⟩).cls : Nat) : Int), .bool ((f.vr x ⟨2, X, f.g.lo + ((e - 1 : Nat) : Int)⟩).neg), .bool ((f.vr x ⟨2, X, f.g.lo + ((e - 1 : Nat) : Int)⟩).x.neg), .slice pN (dig B16 (f.vr x ⟨2, X, f.g.lo + ((e - 1 : Nat) : Int)⟩).x.m).length cN, .int .i64 ((f.vr x ⟨2, X, f.g.lo + ((e - 1 : Nat) : Int)⟩).x.e)], .bool x]) (res2 Tryd.results25 (rvr b4 hT61) rvt) ?_
  replace oN := (oN.only hOV13 (fun h => by have := loN h; omega))
  exact givesVrb_of (by rw [hD]) rfl oN (by omega) ((bthru (bthru (bthru (bthru (bthru ((bthru (bthru ((bthru (bthru hbV1 hbV2) hbV3).trans (hOV4.below (by omega))) hbV5) hbV6).trans (hOV7.below (by omega))) hbV8) hbV9) hbV10) hbV11) hbV12).trans (hOV13.below (by omega)))
end Go.Proofs.YtcipdimogodndaaDoor

namespace Go.Proofs.YtcipdimogodndaaDoor
open Go.RowKit Go.Slip

theorem up_len16 (a N n : Nat) (h : (dig B16 a).length ≤ n) : (dig B16 (a * 2 ^ N)).length ≤ n + (N / 16 + 1) := by
  refine Nat.le_trans (dig_len_mul B16_two a (2 ^ N)) ?_
  rw [dig_len_pow2]; omega
end Go.Proofs.YtcipdimogodndaaDoor

namespace Go.Proofs.YtcipdimogodndaaDoor
open Go.RowKit Go.Slip

def GivesVl (w : World) (v : Vl) (en : Ending) (w' : World) : Prop :=
  ∃ p c, en = .returned (.agg #[.int .i64 ((v.cls : Nat) : Int), .bool v.neg, .slice p (dig B32 v.d).length c, .int .i64 v.pow]) ∧ Own w' w.heap.size .u32 91 p c (dig B32 v.d) ∧ Below w.heap.size w w'
theorem givesVl_none {w w' : World} {v : Vl} {k : Nat} {n : Bool} {en : Ending} (hv : v = ⟨k, n, 0, 0⟩) (h : en = .returned (.agg #[.int .i64 ((k : Nat) : Int), .bool n, .slice none 0 0, .int .i64 0])) (hb : Below w.heap.size w w') : GivesVl w v en w' := by
  subst hv
  refine ⟨none, 0, ?_, ?_, hb⟩
  · rw [h]; show _ = Ending.returned (.agg #[_, _, .slice none (dig B32 0).length 0, _]); rw [dig_zero]; rfl
  · show Own _ _ _ _ _ _ (dig B32 0); rw [dig_zero]; exact Own.nil _ _ _ _

theorem tdiv_bd {x : Int} {wd : Nat} (h : wd = 1 ∨ wd = 4) (hx : -200000 ≤ x ∧ x ≤ 200000) : -200000 ≤ x.tdiv wd ∧ x.tdiv wd ≤ 200000 := by
  rcases Int.le_total 0 x with h0 | h0
  · rw [Int.tdiv_eq_ediv_of_nonneg h0]
    rcases h with rfl | rfl <;> omega
  · have h1 : x.tdiv wd = -((-x) / wd) := by
      rw [← Int.tdiv_eq_ediv_of_nonneg (by omega), Int.neg_tdiv, Int.neg_neg]
    rw [h1]
    rcases h with rfl | rfl <;> omega

set_option maxRecDepth 100000 in
theorem refToValue_any (n : Int) (v : Vr) (p : Option Addr) (c b0 : Nat) (w : World) (hn : IsFm n) (hp : Rf w b0 p c (dig B16 v.x.m)) (hl : (dig B16 v.x.m).length ≤ 1000) (he : -80000 ≤ v.x.e ∧ v.x.e ≤ 80000) :
    Calls Tryd.prog 26 #[.int .i64 n, .agg #[.int .i64 ((v.cls : Nat) : Int), .bool v.neg, .bool v.x.neg, .slice p (dig B16 v.x.m).length c, .int .i64 v.x.e]] w (GivesVl w ((fmt n).toV v)) := by
  have HF := fun W => Lib.hid (refFormat_ok n hn W)
  generalize fmt n = f at *
  by_cases h2 : v.cls = 2
  · have wp := wid_pos f.g
    have hA := tdiv_bd (x := v.x.e + 80000) (wid_two f.g) (by omega)
    have hB := tdiv_bd (x := 80000) (wid_two f.g) (by omega)
    have hv : f.toV v = ⟨v.cls, v.neg, dFloor ⟨false, v.x.m, v.x.e - wid f.g * f.powR v.x⟩, f.powR v.x⟩ := by unfold Fm.toV; rw [if_pos h2, if_pos h2]
    have hk : f.powR v.x = (v.x.e + 80000).tdiv (wid f.g) - (80000 : Int).tdiv (wid f.g) := rfl
    rw [hv]
    have hf8 := far_div8 (x := v.x.e) (wid_two f.g) he.1
    have hmu := ediv_bd v.x.e (wid f.g) (by omega)
    rw [← hf8.2.2, ← hf8.1, ← hf8.2.1, ← hk] at hmu
    clear hf8
    generalize f.powR v.x = k at *
    generalize hmw : (wid f.g : Int) * k = mw at *
    have hfl : (dig B16 (dFloor ⟨false, v.x.m, v.x.e - mw⟩)).length ≤ 1000000 := by
      unfold dFloor
      simp only
      split
      · have := up_len16 v.x.m (v.x.e - mw).toNat 1000 hl
        omega
      · exact Nat.le_trans (dig_len_mono B16_two (Nat.div_le_self _ _)) (by omega)
    have HMW := Lib.hid hmw
    have HK := Lib.hid hk
    have h20 : ((v.cls : Nat) : Int) = 2 := by omega
    have hw0 : ((wid f.g : Nat) : Int) ≠ 0 := by omega
    generalize hAA : (v.x.e + 80000).tdiv (wid f.g) = A at *
    generalize hBB : (80000 : Int).tdiv (wid f.g) = B at *
    have HA := Lib.hid hAA
    have HB := Lib.hid hBB
    clear hAA hBB hmw hk hv
    generalize hD : dFloor ⟨false, v.x.m, v.x.e - mw⟩ = D at *
    have HFL := fun W p c h => Lib.hid (refFloorOf_any false p _ c (v.x.e - mw) v.x.m W h rfl (by omega) (by omega))
    rw [hD] at HFL
    clear hD
    have hT3 : SxOne Tryd.prog 3 := sxOne_of (by kernel_rfl) (by kernel_rfl)
    have hT4 : SxOne Tryd.prog 4 := sxOne_of (by kernel_rfl) (by kernel_rfl)
    have hT23 : SxOne Tryd.prog 23 := sxOne_of (by kernel_rfl) (by kernel_rfl)
    have hT29 : SxAgg Tryd.prog 29 5 := sxAgg_of (by kernel_rfl) (by kernel_rfl)
    have hT32 : SxOne Tryd.prog 32 := sxOne_of (by kernel_rfl) (by kernel_rfl)
    have hT56 : SxAgg Tryd.prog 56 4 := sxAgg_of (by kernel_rfl) (by kernel_rfl)
    have hT79 : SxAgg Tryd.prog 79 9 := sxAgg_of (by kernel_rfl) (by kernel_rfl)
    refine calls_of_wp Tryd.func26 rfl ?_
    refine sx_frame (a' := ⟨((.int .i64 n) :: (.agg #[.int .i64 ((v.cls : Nat) : Int), .bool v.neg, .bool v.x.neg, .slice p (dig B16 v.x.m).length c, .int .i64 v.x.e]) :: us 50 []).toArray, []⟩) (by kernel_rfl) ?_
    refine ye ?_
    refine yw 0 rfl 3 #[.int .i64 ((v.cls : Nat) : Int), .bool v.neg, .bool v.x.neg, .slice p (dig B16 v.x.m).length c, .int .i64 v.x.e] 61 (fun V1 hbV1 hzV1 b3 => ?_)
    refine yw 0 rfl 4 #[.int .i64 0, .bool false, .slice none 0 0, .int .i64 0] 56 (fun V2 hbV2 hzV2 b4 => ?_)
    refine yzt 0 ?_
    refine ye ?_
    have lhp := fun h => hp.lt h
    replace b3 := (b3.past hbV2)
    refine yl 1 rfl 11 b3 hT3 0 ?_
    refine yl 1 rfl 13 b3 hT4 1 ?_
    refine yw 1 rfl 5 #[.int .i64 0, .bool false, .slice none 0 0, .int .i64 0] 56 (fun V3 hbV3 hzV3 b5 => ?_)
    have boV4 := b5
    refine ysw 0 rfl b5 hT56 #[.int .i64 ((v.cls : Nat) : Int), .bool v.neg, .slice none 0 0, .int .i64 0] ?_
    clear b5
    intro V4 hOV4 b5
    have hzV4 := hOV4.size
    refine yzt 0 ?_
    refine wp_seq ?_
    refine ye ?_
    replace b3 := (b3.past (hbV3.trans (hOV4.below (by omega))))
    refine yl 1 rfl 16 b3 hT3 0 ?_
    refine yb 0 rfl 17 (((v.cls : Nat) : Int) == 2) (true) (beq_iff_eq.2 h20) ?_
    refine yzt 0 ?_
    refine yT ?_
    refine ye ?_
    refine yc 1 rfl 20 ((HF V4).out) (fun Gx hGx => ?_)
    rintro eV5 V5 ⟨rfl, hbV5⟩
    have hzV5 := hbV5.size
    refine ⟨_, rfl, hGx _ _ ?_⟩
    clear hGx Gx
    refine yw 3 rfl 6 #[.int .i64 0, .int .i64 0, .int .i64 0, .int .i64 0, .int .i64 0, .int .i64 0, .int .i64 0, .bool false, .int .i64 0] 79 (fun V6 hbV6 hzV6 b6 => ?_)
    have boV7 := b6
    refine ysw 0 rfl b6 hT79 #[.int .i64 ((f.size : Nat) : Int), .int .i64 ((f.E : Nat) : Int), .int .i64 ((f.F : Nat) : Int), .int .i64 f.g.rad, .int .i64 f.g.digs, .int .i64 f.g.lo, .int .i64 f.g.hi, .bool f.g.grad, .int .i64 ((f.fam : Nat) : Int)] ?_
    clear b6
    intro V7 hOV7 b6
    have hzV7 := hOV7.size
    refine yzt 1 ?_
    refine ye ?_
    refine yla 1 rfl 24 b6 hT29 3 ?_
    refine yc 0 rfl 25 (refWidth_any f.g V7) (fun Gx hGx => ?_)
    rintro eV8 V8 ⟨rfl, hbV8⟩
    have hzV8 := hbV8.size
    refine ⟨_, rfl, hGx _ _ ?_⟩
    clear hGx Gx
    refine yzt 1 ?_
    refine wp_seq ?_
    replace b3 := (b3.past (bthru ((bthru hbV5 hbV6).trans (hOV7.below (by omega))) hbV8))
    obtain ⟨V9, hVV9, hbV9, hzV9⟩ := drew_of V8
    replace b3 := (b3.past hbV9)
    refine yd1 hVV9 b3 ?_
    clear hVV9
    refine yt 8 [0, 1] rfl b3 ?_
    refine ytl 2 rfl 28 (fun _ h => h) hT3 4 b3 ?_
    refine tk 3 29 (.int .i64 (v.x.e + 80000)) b3 ?_ (hy := fun w' _ => ((show _ = Result.ok (Next.value (.int .i64 (IntKind.wrap .i64 (v.x.e + 80000)))) _ by kernel_rfl).trans (congrArg (fun z => Result.ok (Next.value (.int .i64 z)) _) (IntWalk.i64_in _ (by omega)))))
    refine yt 5 [4] rfl b3 ?_
    refine tk 5 31 (.int .i64 A) b3 ?_ (hy := fun w' _ => (exec_quo (X := (v.x.e + 80000)) (Y := ((wid f.g : Nat) : Int)) A (by kernel_rfl) (by kernel_rfl) (hw0) ((by rw [HA.out]; exact IntWalk.i64_in _ (by omega)))))
    refine yt 3 [6] rfl b3 ?_
    refine tk 7 33 (.int .i64 B) b3 ?_ (hy := fun w' _ => (exec_quo (X := (80000)) (Y := ((wid f.g : Nat) : Int)) B (by kernel_rfl) (by kernel_rfl) (hw0) ((by rw [HB.out]; exact IntWalk.i64_in _ (by omega)))))
    refine tk 8 34 (.int .i64 k) b3 ?_ (hy := fun w' _ => ((show _ = Result.ok (Next.value (.int .i64 (IntKind.wrap .i64 (A - B)))) _ by kernel_rfl).trans (congrArg (fun z => Result.ok (Next.value (.int .i64 z)) _) ((by rw [HK.out]; exact IntWalk.i64_in _ (by omega))))))
    refine yt 0 [9] rfl b3 ?_
    refine sx_done (by kernel_rfl) ?_
    refine sx_then ?_
    refine sx_region ?_
    refine yl 2 rfl 37 b3 hT32 3 ?_
    refine yl 2 rfl 40 b3 hT3 4 ?_
    refine ya 2 rfl 43 .i64 (((wid f.g : Nat) : Int) * k) (mw) ((by rw [HMW.out]; exact IntWalk.i64_in _ (by omega))) ?_
    refine yi 0 rfl 44 (v.x.e - mw) ?_
    replace hp := (hp.past (bthru (bthru ((bthru (bthru ((bthru (bthru hbV1 hbV2) hbV3).trans (hOV4.below (by omega))) hbV5) hbV6).trans (hOV7.below (by omega))) hbV8) hbV9))
    refine yc 1 rfl 46 ((HFL V9 p c hp.rd).out.mono fun _ _ => GivesR.grf) (fun Gx hGx => ?_)
    rintro eV10 V10 ⟨p46, c46, rfl, o46, hbV10⟩
    have hzV10 := hbV10.size
    have lo46 := fun h => o46.lt h
    refine ⟨_, rfl, hGx _ _ ?_⟩
    clear hGx Gx
    refine yc 0 rfl 47 (refTo_any p46 _ c46 D _ V10 rfl o46.rd rfl (by omega)) (fun Gx hGx => ?_)
    rintro eV11 V11 ⟨p47, c47, rfl, o47, hbV11⟩
    have hzV11 := hbV11.size
    refine ⟨_, rfl, hGx _ _ ?_⟩
    clear hGx Gx
    replace b5 := (b5.past (bthru (bthru (bthru (bthru ((bthru hbV5 hbV6).trans (hOV7.below (by omega))) hbV8) hbV9) hbV10) hbV11))
    have boV12 := b5
    refine ys1 2 rfl b5 hT23 2 (.slice p47 (dig B32 D).length c47) #[.int .i64 ((v.cls : Nat) : Int), .bool v.neg, .slice p47 (dig B32 D).length c47, .int .i64 0] ?_
    clear b5
    intro V12 hOV12 b5
    have hzV12 := hOV12.size
    have boV13 := b5
    refine ys1 1 rfl b5 hT3 3 (.int .i64 k) #[.int .i64 ((v.cls : Nat) : Int), .bool v.neg, .slice p47 (dig B32 D).length c47, .int .i64 k] ?_
    clear b5
    intro V13 hOV13 b5
    have hzV13 := hOV13.size
    refine yz 0 ?_
    refine sx_then ?_
    refine ye ?_
    refine yla 0 rfl 51 b5 hT56 0 ?_
    replace b4 := (b4.past (((bthru (bthru (bthru (bthru ((bthru (bthru (hbV3.trans (hOV4.below (by omega))) hbV5) hbV6).trans (hOV7.below (by omega))) hbV8) hbV9) hbV10) hbV11).trans (hOV12.below (by omega))).trans (hOV13.below (by omega))))
    have boV14 := b4
    refine ysw 0 rfl b4 hT56 #[.int .i64 ((v.cls : Nat) : Int), .bool v.neg, .slice p47 (dig B32 D).length c47, .int .i64 k] ?_
    clear b4
    intro V14 hOV14 b4
    have hzV14 := hOV14.size
    refine yzt 0 ?_
    refine wp_ret ?_
    repeat (first | with_reducible refine sx_thenret ?_ | with_reducible refine sx_blockret ?_)
    refine yret (.agg #[.int .i64 ((v.cls : Nat) : Int), .bool v.neg, .slice p47 (dig B32 D).length c47, .int .i64 k]) (res1 Tryd.results26 (rvr b4 hT56)) ?_
    replace o47 := (((o47.put boV12 hOV12 (by kernel_rfl)).put boV13 hOV13 (by kernel_rfl)).put boV14 hOV14 (by kernel_rfl))
    exact ⟨p47, c47, rfl, o47.mono (by omega), ((((bthru (bthru (bthru (bthru ((bthru (bthru ((bthru (bthru hbV1 hbV2) hbV3).trans (hOV4.below (by omega))) hbV5) hbV6).trans (hOV7.below (by omega))) hbV8) hbV9) hbV10) hbV11).trans (hOV12.below (by omega))).trans (hOV13.below (by omega))).trans (hOV14.below (by omega)))⟩
  · have hv : f.toV v = ⟨v.cls, v.neg, 0, 0⟩ := by unfold Fm.toV; rw [if_neg h2, if_neg h2]
    have hT3 : SxOne Tryd.prog 3 := sxOne_of (by kernel_rfl) (by kernel_rfl)
    have hT4 : SxOne Tryd.prog 4 := sxOne_of (by kernel_rfl) (by kernel_rfl)
    have hT56 : SxAgg Tryd.prog 56 4 := sxAgg_of (by kernel_rfl) (by kernel_rfl)
    refine calls_of_wp Tryd.func26 rfl ?_
    refine sx_frame (a' := ⟨((.int .i64 n) :: (.agg #[.int .i64 ((v.cls : Nat) : Int), .bool v.neg, .bool v.x.neg, .slice p (dig B16 v.x.m).length c, .int .i64 v.x.e]) :: us 50 []).toArray, []⟩) (by kernel_rfl) ?_
    refine ye ?_
    refine yw 0 rfl 3 #[.int .i64 ((v.cls : Nat) : Int), .bool v.neg, .bool v.x.neg, .slice p (dig B16 v.x.m).length c, .int .i64 v.x.e] 61 (fun V1 hbV1 hzV1 b3 => ?_)
    refine yw 0 rfl 4 #[.int .i64 0, .bool false, .slice none 0 0, .int .i64 0] 56 (fun V2 hbV2 hzV2 b4 => ?_)
    refine yzt 0 ?_
    refine ye ?_
    replace b3 := (b3.past hbV2)
    refine yl 1 rfl 11 b3 hT3 0 ?_
    refine yl 1 rfl 13 b3 hT4 1 ?_
    refine yw 1 rfl 5 #[.int .i64 0, .bool false, .slice none 0 0, .int .i64 0] 56 (fun V3 hbV3 hzV3 b5 => ?_)
    have boV4 := b5
    refine ysw 0 rfl b5 hT56 #[.int .i64 ((v.cls : Nat) : Int), .bool v.neg, .slice none 0 0, .int .i64 0] ?_
    clear b5
    intro V4 hOV4 b5
    have hzV4 := hOV4.size
    refine yzt 0 ?_
    refine wp_seq ?_
    refine ye ?_
    replace b3 := (b3.past (hbV3.trans (hOV4.below (by omega))))
    refine yl 1 rfl 16 b3 hT3 0 ?_
    refine yb 0 rfl 17 (((v.cls : Nat) : Int) == 2) (false) (beq_eq_false_iff_ne.2 (by omega)) ?_
    refine yzt 0 ?_
    refine yF ?_
    refine wp_skip ?_
    refine sx_then ?_
    refine ye ?_
    refine yla 0 rfl 51 b5 hT56 0 ?_
    replace b4 := (b4.past (hbV3.trans (hOV4.below (by omega))))
    have boV5 := b4
    refine ysw 0 rfl b4 hT56 #[.int .i64 ((v.cls : Nat) : Int), .bool v.neg, .slice none 0 0, .int .i64 0] ?_
    clear b4
    intro V5 hOV5 b4
    have hzV5 := hOV5.size
    refine yzt 0 ?_
    refine wp_ret ?_
    repeat (first | with_reducible refine sx_thenret ?_ | with_reducible refine sx_blockret ?_)
    refine yret (.agg #[.int .i64 ((v.cls : Nat) : Int), .bool v.neg, .slice none 0 0, .int .i64 0]) (res1 Tryd.results26 (rvr b4 hT56)) ?_
    exact givesVl_none hv rfl (((bthru (bthru hbV1 hbV2) hbV3).trans (hOV4.below (by omega))).trans (hOV5.below (by omega)))

theorem refSameValue_any (v : Vl) (p q : Option Addr) (c d b1 b2 : Nat) (w : World) (hp : Own w b1 .u32 91 p c (dig B32 v.d)) (hq : Own w b2 .u32 91 q d (dig B32 v.d)) (hl : (dig B32 v.d).length ≤ 1000000) :
    Calls Tryd.prog 28 #[.agg #[.int .i64 ((v.cls : Nat) : Int), .bool v.neg, .slice p (dig B32 v.d).length c, .int .i64 v.pow], .agg #[.int .i64 ((v.cls : Nat) : Int), .bool v.neg, .slice q (dig B32 v.d).length d, .int .i64 v.pow]] w fun en w' => en = .returned (.bool true) ∧ Below w.heap.size w w' := by
  have hT3 : SxOne Tryd.prog 3 := sxOne_of (by kernel_rfl) (by kernel_rfl)
  have hT4 : SxOne Tryd.prog 4 := sxOne_of (by kernel_rfl) (by kernel_rfl)
  have hT23 : SxOne Tryd.prog 23 := sxOne_of (by kernel_rfl) (by kernel_rfl)
  refine calls_of_wp Tryd.func28 rfl ?_
  refine sx_frame (a' := ⟨((.agg #[.int .i64 ((v.cls : Nat) : Int), .bool v.neg, .slice p (dig B32 v.d).length c, .int .i64 v.pow]) :: (.agg #[.int .i64 ((v.cls : Nat) : Int), .bool v.neg, .slice q (dig B32 v.d).length d, .int .i64 v.pow]) :: us 29 []).toArray, []⟩) (by kernel_rfl) ?_
  refine ye ?_
  refine yw 0 rfl 2 #[.int .i64 ((v.cls : Nat) : Int), .bool v.neg, .slice p (dig B32 v.d).length c, .int .i64 v.pow] 56 (fun V1 hbV1 hzV1 b2 => ?_)
  refine yw 0 rfl 3 #[.int .i64 ((v.cls : Nat) : Int), .bool v.neg, .slice q (dig B32 v.d).length d, .int .i64 v.pow] 56 (fun V2 hbV2 hzV2 b3 => ?_)
  refine yzt 1 ?_
  refine ye ?_
  replace b2 := (b2.past hbV2)
  refine yl 1 rfl 6 b2 hT3 0 ?_
  refine yl 1 rfl 8 b3 hT3 0 ?_
  refine yb 0 rfl 9 (((v.cls : Nat) : Int) == ((v.cls : Nat) : Int)) (true) (beq_self_eq_true _) ?_
  refine yl 2 rfl 12 b2 hT4 1 ?_
  refine yl 1 rfl 14 b3 hT4 1 ?_
  refine yb 0 rfl 15 (v.neg == v.neg) (true) (beq_self_eq_true _) ?_
  refine yl 3 rfl 19 b2 hT3 3 ?_
  refine yl 1 rfl 21 b3 hT3 3 ?_
  refine yb 0 rfl 22 (v.pow == v.pow) (true) (beq_self_eq_true _) ?_
  refine yl 3 rfl 26 b2 hT23 2 ?_
  refine yl 1 rfl 28 b3 hT23 2 ?_
  replace hp := (hp.past (bthru hbV1 hbV2))
  replace hq := (hq.past (bthru hbV1 hbV2))
  refine yc 0 rfl 29 (refSameNat_any p q _ c _ d _ _ V2 hp.rd hq.rd rfl rfl rfl (by omega)) (fun Gx hGx => ?_)
  rintro eV3 V3 ⟨rfl, hbV3⟩
  have hzV3 := hbV3.size
  refine ⟨_, rfl, hGx _ _ ?_⟩
  clear hGx Gx
  refine yzt 2 ?_
  refine wp_ret ?_
  repeat (first | with_reducible refine sx_thenret ?_ | with_reducible refine sx_blockret ?_)
  refine yret (.bool true) (res1 Tryd.results28 rvt) ?_
  exact ⟨rfl, (bthru (bthru hbV1 hbV2) hbV3)⟩
end Go.Proofs.YtcipdimogodndaaDoor

namespace Go.Slip
theorem bytesOf_strOf {xs : List Nat} (h : ∀ x ∈ xs, x < 256) : bytesOf (strOf xs) = xs := by
  unfold bytesOf strOf
  simp only [List.toList_toArray, List.map_map]
  rw [show (xs.map (UInt8.toNat ∘ UInt8.ofNat)) = xs.map id from List.map_congr_left fun x hx => by
    have := h x hx
    simp only [Function.comp, id]
    rw [UInt8.toNat_ofNat']
    omega]
  simp
theorem rd_lit4 {w : World} {b : Nat} {t : TypeId} {k : IntKind} {x0 x1 x2 x3 : Nat} (h : Bt w b t #[.int k (x0 : Int), .int k (x1 : Int), .int k (x2 : Int), .int k (x3 : Int)]) : Rd w k (some ⟨b, 0, none⟩) [x0, x1, x2, x3] := by
  refine ⟨fun _ => ⟨rfl, rfl⟩, fun j hj => ?_⟩
  obtain ⟨h0, h1, h2, h3⟩ := h.bx.e4
  simp only [List.length_cons, List.length_nil] at hj
  match j, hj with
  | 0, _ => exact h0
  | 1, _ => exact h1
  | 2, _ => exact h2
  | 3, _ => exact h3
theorem rd_lit1 {w : World} {b : Nat} {t : TypeId} {k : IntKind} {x0 : Nat} (h : Bt w b t #[.int k (x0 : Int)]) : Rd w k (some ⟨b, 0, none⟩) [x0] := by
  refine ⟨fun _ => ⟨rfl, rfl⟩, fun j hj => ?_⟩
  simp only [List.length_cons, List.length_nil] at hj
  obtain rfl : j = 0 := by omega
  exact h.e1
theorem exec_seq {P : Program} {a : Act} {w : World} {x y : Operand} {dst : Option Tmp} {t t2 tt : TypeId} {pos : String} {af : Array Edge} {g : Option (Nat × Bool)} {s : ByteArray} (hx : a.eval x = .string s) (hy : a.eval y = .string s) :
    (execOp a.eval ⟨dst, .binOp .eql t x y tt, t2, pos, af, g⟩).run P w = .ok (.value (.bool true)) w := by
  unfold execOp
  simp only [hx, hy]
  simp [go_sem, eqGuard]
end Go.Slip
namespace Go.Proofs.YtcipdimogodndaaDoor
open Go.RowKit Go.Slip

theorem exec_geq {a : Act} {w : World} {x y : Operand} {dst : Option Tmp} {t2 tt : TypeId} {pos : String} {af : Array Edge} {g : Option (Nat × Bool)} {i j k l : Int} {b : Bool} (hx : a.eval x = .agg #[.int .i64 i, .int .i64 j, .int .i64 k, .int .i64 l, .bool b]) (hy : a.eval y = .agg #[.int .i64 i, .int .i64 j, .int .i64 k, .int .i64 l, .bool b]) :
    (execOp a.eval ⟨dst, .binOp .eql 29 x y tt, t2, pos, af, g⟩).run Tryd.prog w = .ok (.value (.bool true)) w := by
  unfold execOp
  simp only [hx, hy]
  rw [Sem.run_bind, Sem.run_bind, run_eqGuard_agg (hm := by kernel_rfl), Result.andThen_ok, run_eql_struct, run_equalIn_agg (ht := by kernel_rfl) (hp := by kernel_rfl)]
  simp [go_sem]

def errEncN (n cls : Int) (a : Din) : Int := if IsFm n then errEnc (fmt n) cls a else 6
theorem Encode_any (n : Int) (cls : Int) (a : Din) (w : World) (ha : InD w a) (hT : TabW w) :
    Calls Tryd.prog 29 #[.int .i64 n, .agg #[.int .i64 cls, .bool a.g, .slice a.p a.xs.length a.c, .int .i64 a.e]] w (GivesS w (errEncN n cls a) (encOut (fmt n) cls a)) := by
  unfold errEncN
  by_cases hn : IsFm n
  · rw [if_pos hn]; exact encode_fm n cls a w hn ha hT
  · rw [if_neg hn]
    have HF := fun W => Lib.hid (forms_not n hn W)
    generalize encOut (fmt n) cls a = s
    have hT116 : SxAgg Tryd.prog 116 12 := sxAgg_of (by kernel_rfl) (by kernel_rfl)
    refine calls_of_wp Tryd.func29 rfl ?_
    refine sx_frame (a' := ⟨((.int .i64 n) :: (.agg #[.int .i64 cls, .bool a.g, .slice a.p a.xs.length a.c, .int .i64 a.e]) :: us 145 []).toArray, []⟩) (by kernel_rfl) ?_
    refine ye ?_
    refine yw 0 rfl 3 #[.int .i64 cls, .bool a.g, .slice a.p a.xs.length a.c, .int .i64 a.e] 56 (fun V1 hbV1 hzV1 b3 => ?_)
    refine yzt 2 ?_
    refine ye ?_
    refine yc 1 rfl 13 ((HF V1).out) (fun Gx hGx => ?_)
    rintro eV2 V2 ⟨rfl, hbV2⟩
    have hzV2 := hbV2.size
    refine ⟨_, rfl, hGx _ _ ?_⟩
    clear hGx Gx
    refine yw 3 rfl 6 #[.int .i64 0, .int .i64 0, .int .i64 0, .int .i64 0, .int .i64 0, .int .i64 0, .int .i64 0, .bool false, .bool false, .bool false, .bool false, .nilFunc] 116 (fun V3 hbV3 hzV3 b6 => ?_)
    have boV4 := b6
    refine ysw 0 rfl b6 hT116 #[.int .i64 0, .int .i64 0, .int .i64 0, .int .i64 0, .int .i64 0, .int .i64 0, .int .i64 0, .bool false, .bool false, .bool false, .bool false, .nilFunc] ?_
    clear b6
    intro V4 hOV4 b6
    have hzV4 := hOV4.size
    refine yzt 1 ?_
    refine wp_seq ?_
    refine yq ?_
    refine yT ?_
    refine yq ?_
    refine wp_ret ?_
    repeat (first | with_reducible refine sx_thenret ?_ | with_reducible refine sx_blockret ?_)
    refine yret (.tuple #[Go.Value.string (ByteArray.mk #[]), .int .i64 6]) (res2 Tryd.results29 rvt rvt) ?_
    exact givesS_err (r := 6) rfl (by decide) rfl ((bthru (bthru hbV1 hbV2) hbV3).trans (hOV4.below (by omega)))

def a5 : Din := ⟨false, none, 0, [], 0⟩
theorem beg_num : numOfS (fmt 1) (strOf [64, 64, 0, 0]) = 1077936128 := by
  unfold numOfS
  rw [bytesOf_strOf (by decide)]
  decide +kernel
theorem beg_err : errPat 1 (strOf [64, 64, 0, 0]) = 0 := errPat_zero.2 ⟨by decide, by rw [strOf_size]; rfl⟩
theorem beg_dec : decP 1 (strOf [64, 64, 0, 0]) = ⟨2, false, 3, 0⟩ := by
  unfold decP
  rw [if_pos beg_err, beg_num]
  have hd : (fmt 1).decN 1077936128 = ⟨2, 12582912, -22⟩ := by kernel_rfl
  have hg : (fmt 1).neg 1077936128 = false := by decide +kernel
  unfold Fm.valN Fm.vl
  rw [hd, hg]
  have ht : tz 12582912 = 22 := tz_mul 3 22 rfl
  have hw : wid (fmt 1).g = 1 := by decide
  unfold Dc.c
  simp [ht, hw]
theorem beg_enc : errEncN 6 5 a5 = 0 ∧ encOut (fmt 6) 5 a5 = strOf [0, 128, 0, 0] := by
  refine ⟨by decide +kernel, ?_⟩
  show strOf ((fmt 6).strP ((fmt 6).encP 5 a5.g (numD (fmt 6) a5))) = _
  have h1 : (fmt 6).encP 5 a5.g (numD (fmt 6) a5) = ⟨true, 0, 0⟩ := rfl
  have h2 : (fmt 6).strP ⟨true, 0, 0⟩ = [0, 128, 0, 0] := by decide +kernel
  rw [h1, h2]

set_option maxRecDepth 100000 in
theorem codecBegun_any (w : World) (hT : TabW w) : Calls Tryd.prog 27 #[] w fun en w' => en = .returned (.bool true) ∧ Below w.heap.size w w' := by
  have HD := fun W h => Lib.hid (Decode_any 1 (strOf [64, 64, 0, 0]) W h)
  rw [beg_dec, beg_err] at HD
  have HE : ∀ W, TabW W → Hid (Calls Tryd.prog 29 #[.int .i64 6, .agg #[.int .i64 5, .bool false, .slice none 0 0, .int .i64 0]] W fun en w' => en = .returned (.tuple #[.string (strOf [0, 128, 0, 0]), .int .i64 0]) ∧ Below W.heap.size W w') := by
    intro W h
    have := Encode_any 6 5 a5 W ⟨Rd.nil _ _ _, by simp [a5], by simp [a5], by simp [a5]⟩ h
    rw [beg_enc.1, beg_enc.2] at this
    unfold GivesS at this
    rw [if_pos rfl] at this
    exact Lib.hid this
  have e3 : dig B32 3 = [3] := dig_small B32_two (by omega) (by unfold B32; omega)
  have hT3 : SxOne Tryd.prog 3 := sxOne_of (by kernel_rfl) (by kernel_rfl)
  have hT23 : SxOne Tryd.prog 23 := sxOne_of (by kernel_rfl) (by kernel_rfl)
  have hT56 : SxAgg Tryd.prog 56 4 := sxAgg_of (by kernel_rfl) (by kernel_rfl)
  refine calls_of_wp Tryd.func27 rfl ?_
  refine sx_frame (a' := ⟨(us 44 []).toArray, []⟩) (by kernel_rfl) ?_
  refine yq ?_
  refine ye ?_
  refine ywv 0 rfl 6 (.slice (some ⟨w.heap.size, 0, none⟩) 4 4) #[.int .u8 64, .int .u8 64, .int .u8 0, .int .u8 0] 5 (fun V1 hbV1 hzV1 b6 => ?_)
  refine yv 0 rfl 7 (.string (strOf [64, 64, 0, 0])) ?_ (exec_str (p := some ⟨w.heap.size, 0, none⟩) (n := 4) (c := 4) (xs := [64, 64, 0, 0]) uBytes uByte uStr (rd_lit4 b6) rfl (by kernel_rfl))
  replace hT := (hT.past hbV1)
  refine yc 0 rfl 8 ((HD V1 hT).out) (fun Gx hGx => ?_)
  rintro eV2 V2 ⟨p8, c8, rfl, o8, hbV2⟩
  have hzV2 := hbV2.size
  refine ⟨_, rfl, hGx _ _ ?_⟩
  clear hGx Gx
  refine yw 3 rfl 1 #[.int .i64 0, .bool false, .slice none 0 0, .int .i64 0] 56 (fun V3 hbV3 hzV3 b1 => ?_)
  have boV4 := b1
  refine ysw 0 rfl b1 hT56 #[.int .i64 2, .bool false, .slice p8 (dig B32 3).length c8, .int .i64 0] ?_
  clear b1
  intro V4 hOV4 b1
  have hzV4 := hOV4.size
  refine yzt 1 ?_
  refine ye ?_
  replace hT := (hT.past ((bthru hbV2 hbV3).trans (hOV4.below (by omega))))
  refine yc 1 rfl 13 ((HE V4 hT).out) (fun Gx hGx => ?_)
  rintro eV5 V5 ⟨rfl, hbV5⟩
  have hzV5 := hbV5.size
  refine ⟨_, rfl, hGx _ _ ?_⟩
  clear hGx Gx
  refine yzt 5 ?_
  refine ye ?_
  replace b1 := (b1.past hbV5)
  refine yl 4 rfl 20 b1 hT3 0 ?_
  refine yl 4 rfl 25 b1 hT23 2 ?_
  refine ywv 0 rfl 26 (.slice (some ⟨V5.heap.size, 0, none⟩) 1 1) #[.int .u32 3] 91 (fun V6 hbV6 hzV6 b26 => ?_)
  replace o8 := (o8.past (bthru (bthru (hbV3.trans (hOV4.below (by omega))) hbV5) hbV6))
  refine yc 0 rfl 27 (refSameNat_any p8 (some ⟨V5.heap.size, 0, none⟩) _ c8 1 1 (dig B32 3) [3] V6 o8.rd (rd_lit1 b26) rfl rfl e3 (by rw [e3]; decide)) (fun Gx hGx => ?_)
  rintro eV7 V7 ⟨rfl, hbV7⟩
  have hzV7 := hbV7.size
  refine ⟨_, rfl, hGx _ _ ?_⟩
  clear hGx Gx
  replace b1 := (b1.past (bthru hbV6 hbV7))
  refine yl 3 rfl 31 b1 hT3 3 ?_
  refine ywv 8 rfl 40 (.slice (some ⟨V7.heap.size, 0, none⟩) 4 4) #[.int .u8 0, .int .u8 128, .int .u8 0, .int .u8 0] 5 (fun V8 hbV8 hzV8 b40 => ?_)
  refine yv 0 rfl 41 (.string (strOf [0, 128, 0, 0])) ?_ (exec_str (p := some ⟨V7.heap.size, 0, none⟩) (n := 4) (c := 4) (xs := [0, 128, 0, 0]) uBytes uByte uStr (rd_lit4 b40) rfl (by kernel_rfl))
  refine yv 0 rfl 42 (.bool true) ?_ (exec_seq (s := strOf [0, 128, 0, 0]) (by kernel_rfl) (by kernel_rfl))
  refine yzt 2 ?_
  refine wp_ret ?_
  repeat (first | with_reducible refine sx_thenret ?_ | with_reducible refine sx_blockret ?_)
  refine yret (.bool true) (res1 Tryd.results27 rvt) ?_
  exact ⟨rfl, (bthru (bthru (bthru (bthru ((bthru (bthru hbV1 hbV2) hbV3).trans (hOV4.below (by omega))) hbV5) hbV6) hbV7) hbV8)⟩

set_option maxRecDepth 100000 in
theorem codecSizes_row (n : Int) (w : World) (hT : TabW w) : Calls Tryd.prog 7 #[.int .i64 n] w fun en w' => en = .returned (.bool true) ∧ Below w.heap.size w w' := by
  have HS := fun W => Lib.hid (Size_any n W)
  have HG := fun W => Lib.hid (Grid_any n W)
  have HF := fun W => Lib.hid (refFormat_any n W)
  by_cases hn : IsFm n
  · have h0 : errFm n = 0 := by unfold errFm; rw [if_pos hn]
    rw [decide_eq_true hn] at HF
    rw [h0] at HS HG
    generalize fmt n = f at *
    have hT3 : SxOne Tryd.prog 3 := sxOne_of (by kernel_rfl) (by kernel_rfl)
    have hT29 : SxAgg Tryd.prog 29 5 := sxAgg_of (by kernel_rfl) (by kernel_rfl)
    have hT79 : SxAgg Tryd.prog 79 9 := sxAgg_of (by kernel_rfl) (by kernel_rfl)
    refine calls_of_wp Tryd.func7 rfl ?_
    refine sx_frame (a' := ⟨((.int .i64 n) :: us 49 []).toArray, []⟩) (by kernel_rfl) ?_
    refine yq ?_
    refine ye ?_
    refine yc 1 rfl 12 ((HS w).out) (fun Gx hGx => ?_)
    rintro eV1 V1 ⟨rfl, hbV1⟩
    have hzV1 := hbV1.size
    refine ⟨_, rfl, hGx _ _ ?_⟩
    clear hGx Gx
    refine yzt 5 ?_
    refine ye ?_
    refine yc 1 rfl 17 ((HG V1).out) (fun Gx hGx => ?_)
    rintro eV2 V2 ⟨rfl, hbV2⟩
    have hzV2 := hbV2.size
    refine ⟨_, rfl, hGx _ _ ?_⟩
    clear hGx Gx
    refine yw 3 rfl 5 #[.int .i64 0, .int .i64 0, .int .i64 0, .int .i64 0, .bool false] 29 (fun V3 hbV3 hzV3 b5 => ?_)
    have boV4 := b5
    refine ysw 0 rfl b5 hT29 #[.int .i64 f.g.rad, .int .i64 f.g.digs, .int .i64 f.g.lo, .int .i64 f.g.hi, .bool f.g.grad] ?_
    clear b5
    intro V4 hOV4 b5
    have hzV4 := hOV4.size
    refine yzt 1 ?_
    refine ye ?_
    refine yc 1 rfl 22 ((HF V4).out) (fun Gx hGx => ?_)
    rintro eV5 V5 ⟨rfl, hbV5⟩
    have hzV5 := hbV5.size
    refine ⟨_, rfl, hGx _ _ ?_⟩
    clear hGx Gx
    refine yw 3 rfl 7 #[.int .i64 0, .int .i64 0, .int .i64 0, .int .i64 0, .int .i64 0, .int .i64 0, .int .i64 0, .bool false, .int .i64 0] 79 (fun V6 hbV6 hzV6 b7 => ?_)
    have boV7 := b7
    refine ysw 0 rfl b7 hT79 #[.int .i64 ((f.size : Nat) : Int), .int .i64 ((f.E : Nat) : Int), .int .i64 ((f.F : Nat) : Int), .int .i64 f.g.rad, .int .i64 f.g.digs, .int .i64 f.g.lo, .int .i64 f.g.hi, .bool f.g.grad, .int .i64 ((f.fam : Nat) : Int)] ?_
    clear b7
    intro V7 hOV7 b7
    have hzV7 := hOV7.size
    refine yzt 1 ?_
    refine yq ?_
    refine wp_seq ?_
    refine yq ?_
    refine yF ?_
    refine wp_skip ?_
    refine sx_then ?_
    refine ye ?_
    replace hT := (hT.past ((bthru (bthru ((bthru (bthru hbV1 hbV2) hbV3).trans (hOV4.below (by omega))) hbV5) hbV6).trans (hOV7.below (by omega))))
    refine yc 0 rfl 27 (codecBegun_any V7 hT) (fun Gx hGx => ?_)
    rintro eV8 V8 ⟨rfl, hbV8⟩
    have hzV8 := hbV8.size
    refine ⟨_, rfl, hGx _ _ ?_⟩
    clear hGx Gx
    replace b7 := (b7.past hbV8)
    refine yl 13 rfl 41 b7 hT3 0 ?_
    refine yb 0 rfl 42 (((f.size : Nat) : Int) == ((f.size : Nat) : Int)) (true) (beq_self_eq_true _) ?_
    replace b5 := (b5.past (bthru ((bthru hbV5 hbV6).trans (hOV7.below (by omega))) hbV8))
    refine yla 2 rfl 45 b5 hT29 0 ?_
    refine yla 1 rfl 47 b7 hT29 3 ?_
    refine yv 0 rfl 48 (.bool true) ?_ (exec_geq (i := f.g.rad) (j := f.g.digs) (k := f.g.lo) (l := f.g.hi) (b := f.g.grad) (by kernel_rfl) (by kernel_rfl))
    refine yzt 2 ?_
    refine wp_ret ?_
    repeat (first | with_reducible refine sx_thenret ?_ | with_reducible refine sx_blockret ?_)
    refine yret (.bool true) (res1 Tryd.results7 rvt) ?_
    exact ⟨rfl, (bthru ((bthru (bthru ((bthru (bthru hbV1 hbV2) hbV3).trans (hOV4.below (by omega))) hbV5) hbV6).trans (hOV7.below (by omega))) hbV8)⟩
  · have h0 : errFm n = 6 := by unfold errFm; rw [if_neg hn]
    rw [decide_eq_false hn] at HF
    rw [h0] at HS HG
    generalize fmt n = f at *
    have hT3 : SxOne Tryd.prog 3 := sxOne_of (by kernel_rfl) (by kernel_rfl)
    have hT29 : SxAgg Tryd.prog 29 5 := sxAgg_of (by kernel_rfl) (by kernel_rfl)
    have hT79 : SxAgg Tryd.prog 79 9 := sxAgg_of (by kernel_rfl) (by kernel_rfl)
    refine calls_of_wp Tryd.func7 rfl ?_
    refine sx_frame (a' := ⟨((.int .i64 n) :: us 49 []).toArray, []⟩) (by kernel_rfl) ?_
    refine yq ?_
    refine ye ?_
    refine yc 1 rfl 12 ((HS w).out) (fun Gx hGx => ?_)
    rintro eV1 V1 ⟨rfl, hbV1⟩
    have hzV1 := hbV1.size
    refine ⟨_, rfl, hGx _ _ ?_⟩
    clear hGx Gx
    refine yzt 5 ?_
    refine ye ?_
    refine yc 1 rfl 17 ((HG V1).out) (fun Gx hGx => ?_)
    rintro eV2 V2 ⟨rfl, hbV2⟩
    have hzV2 := hbV2.size
    refine ⟨_, rfl, hGx _ _ ?_⟩
    clear hGx Gx
    refine yw 3 rfl 5 #[.int .i64 0, .int .i64 0, .int .i64 0, .int .i64 0, .bool false] 29 (fun V3 hbV3 hzV3 b5 => ?_)
    have boV4 := b5
    refine ysw 0 rfl b5 hT29 #[.int .i64 f.g.rad, .int .i64 f.g.digs, .int .i64 f.g.lo, .int .i64 f.g.hi, .bool f.g.grad] ?_
    clear b5
    intro V4 hOV4 b5
    have hzV4 := hOV4.size
    refine yzt 1 ?_
    refine ye ?_
    refine yc 1 rfl 22 ((HF V4).out) (fun Gx hGx => ?_)
    rintro eV5 V5 ⟨rfl, hbV5⟩
    have hzV5 := hbV5.size
    refine ⟨_, rfl, hGx _ _ ?_⟩
    clear hGx Gx
    refine yw 3 rfl 7 #[.int .i64 0, .int .i64 0, .int .i64 0, .int .i64 0, .int .i64 0, .int .i64 0, .int .i64 0, .bool false, .int .i64 0] 79 (fun V6 hbV6 hzV6 b7 => ?_)
    have boV7 := b7
    refine ysw 0 rfl b7 hT79 #[.int .i64 ((f.size : Nat) : Int), .int .i64 ((f.E : Nat) : Int), .int .i64 ((f.F : Nat) : Int), .int .i64 f.g.rad, .int .i64 f.g.digs, .int .i64 f.g.lo, .int .i64 f.g.hi, .bool f.g.grad, .int .i64 ((f.fam : Nat) : Int)] ?_
    clear b7
    intro V7 hOV7 b7
    have hzV7 := hOV7.size
    refine yzt 1 ?_
    refine yq ?_
    refine wp_seq ?_
    refine yq ?_
    refine yT ?_
    refine yr ?_
    refine sx_then ?_
    refine ye ?_
    replace hT := (hT.past ((bthru (bthru ((bthru (bthru hbV1 hbV2) hbV3).trans (hOV4.below (by omega))) hbV5) hbV6).trans (hOV7.below (by omega))))
    refine yc 0 rfl 27 (codecBegun_any V7 hT) (fun Gx hGx => ?_)
    rintro eV8 V8 ⟨rfl, hbV8⟩
    have hzV8 := hbV8.size
    refine ⟨_, rfl, hGx _ _ ?_⟩
    clear hGx Gx
    replace b7 := (b7.past hbV8)
    refine yl 13 rfl 41 b7 hT3 0 ?_
    refine yb 0 rfl 42 (((f.size : Nat) : Int) == ((f.size : Nat) : Int)) (true) (beq_self_eq_true _) ?_
    replace b5 := (b5.past (bthru ((bthru hbV5 hbV6).trans (hOV7.below (by omega))) hbV8))
    refine yla 2 rfl 45 b5 hT29 0 ?_
    refine yla 1 rfl 47 b7 hT29 3 ?_
    refine yv 0 rfl 48 (.bool true) ?_ (exec_geq (i := f.g.rad) (j := f.g.digs) (k := f.g.lo) (l := f.g.hi) (b := f.g.grad) (by kernel_rfl) (by kernel_rfl))
    refine yzt 2 ?_
    refine wp_ret ?_
    repeat (first | with_reducible refine sx_thenret ?_ | with_reducible refine sx_blockret ?_)
    refine yret (.bool true) (res1 Tryd.results7 rvt) ?_
    exact ⟨rfl, (bthru ((bthru (bthru ((bthru (bthru hbV1 hbV2) hbV3).trans (hOV4.below (by omega))) hbV5) hbV6).trans (hOV7.below (by omega))) hbV8)⟩
end Go.Proofs.YtcipdimogodndaaDoor

namespace Go.Proofs.YtcipdimogodndaaDoor
open Go.RowKit Go.Slip

structure DecF (f : Fm) (s : ByteArray) : Prop where
  same : f.toV (f.refN (numOfS f s)) = f.valN (numOfS f s)
  len : (dig B16 (f.refN (numOfS f s)).x.m).length ≤ 1000
  lo : -80000 ≤ (f.refN (numOfS f s)).x.e
  hi : (f.refN (numOfS f s)).x.e ≤ 80000
  vlen : (dig B32 (f.valN (numOfS f s)).d).length ≤ 1000
theorem decF_aux (f : Fm) (g : Bool) (D : Dc) (k2 : D.m < 2 ^ (f.F + 1)) (k3 : -16445 ≤ D.p ∧ D.p ≤ 16323) (z2 : f.F ≤ 64) :
    f.toV (f.vr g D) = f.vl g D ∧ (dig B16 (f.vr g D).x.m).length ≤ 1000 ∧ -80000 ≤ (f.vr g D).x.e ∧ (f.vr g D).x.e ≤ 80000 ∧ (dig B32 (f.vl g D).d).length ≤ 1000 := by
  refine ⟨toV_same f g D (by omega) (by omega), ?_, ?_, ?_, ?_⟩
  · unfold Fm.vr
    simp only
    split
    · exact Nat.le_trans (bare_len B16_two _) (Nat.le_trans (dig16_le_pow k2 (k := 5) (by omega)) (by omega))
    · simp [dig_zero]
  · unfold Fm.vr
    simp only
    split
    · have := bare_e (⟨g, D.m, wid f.g * D.p⟩ : Dv) (n := 3) (dig_le_pow k2 (by omega)) (lo := -80000) (hi := 70000) (by have := mul_bd (wd := wid f.g) (k := D.p) (B := 16445) (wid_pos f.g).2 (by omega); simp only; omega) (by have := mul_bd (wd := wid f.g) (k := D.p) (B := 16445) (wid_pos f.g).2 (by omega); simp only; omega) (by omega) (by omega)
      exact this.1
    · simp
  · unfold Fm.vr
    simp only
    split
    · have := bare_e (⟨g, D.m, wid f.g * D.p⟩ : Dv) (n := 3) (dig_le_pow k2 (by omega)) (lo := -80000) (hi := 70000) (by have := mul_bd (wd := wid f.g) (k := D.p) (B := 16445) (wid_pos f.g).2 (by omega); simp only; omega) (by have := mul_bd (wd := wid f.g) (k := D.p) (B := 16445) (wid_pos f.g).2 (by omega); simp only; omega) (by omega) (by omega)
      omega
    · simp
  · unfold Fm.vl
    simp only
    split
    · exact Nat.le_trans (dig_len_mono B32_two (Nat.div_le_self _ _)) (Nat.le_trans (dig_le_pow k2 (k := 3) (by omega)) (by omega))
    · simp [dig_zero]

theorem decF_of {f : Fm} (G : GoodF f) (s : ByteArray) : DecF f s := by
  have he : f.exp (numOfS f s) < 2 ^ f.E := Nat.mod_lt _ (Nat.pow_pos (by omega))
  have hx : f.frac (numOfS f s) < 2 ^ f.F := Nat.mod_lt _ (Nat.pow_pos (by omega))
  obtain ⟨h1, h2, h3, h4, h5⟩ := decF_aux f (f.neg (numOfS f s)) (f.decN (numOfS f s)) (dec_m (f := f) (f.neg (numOfS f s)) (e := f.exp (numOfS f s)) hx) (dec_p G (f.neg (numOfS f s)) (frac := f.frac (numOfS f s)) he) G.f2
  exact ⟨h1, h2, h3, h4, h5⟩

theorem own_zeroVl (w : World) (b : Nat) : Own w b .u32 91 none 0 (dig B32 zeroVl.d) := by show Own _ _ _ _ _ _ (dig B32 0); rw [dig_zero]; exact Own.nil _ _ _ _
theorem sameZero_any (p : Option Addr) (c b1 : Nat) (w : World) (hp : Own w b1 .u32 91 p c (dig B32 zeroVl.d)) :
    Calls Tryd.prog 28 #[.agg #[.int .i64 ((zeroVl.cls : Nat) : Int), .bool zeroVl.neg, .slice p (dig B32 zeroVl.d).length c, .int .i64 zeroVl.pow], .agg #[.int .i64 0, .bool false, .slice none 0 0, .int .i64 0]] w fun en w' => en = .returned (.bool true) ∧ Below w.heap.size w w' := by
  have := refSameValue_any zeroVl p none c 0 b1 0 w hp (own_zeroVl w 0) (by show (dig B32 0).length ≤ _; rw [dig_zero]; decide)
  rw [show (dig B32 zeroVl.d).length = 0 by show (dig B32 0).length = 0; rw [dig_zero]; rfl] at this ⊢
  exact this

set_option maxRecDepth 100000 in
theorem codecDecodes_row (n : Int) (s : ByteArray) (w : World) (hT : TabW w) : Calls Tryd.prog 4 #[.int .i64 n, .string s] w fun en w' => en = .returned (.bool true) ∧ Below w.heap.size w w' := by
  have HD := fun W h => Lib.hid (Decode_any n s W h)
  have HO := fun W => Lib.hid (refOpen_any n s W)
  by_cases h0 : errPat n s = 0
  · obtain ⟨hn, hs⟩ := errPat_zero.1 h0
    have hd : decP n s = (fmt n).valN (numOfS (fmt n) s) := by unfold decP; rw [if_pos h0]
    have F := decF_of (good_fm hn) s
    have HR := fun W => Lib.hid (refDecodeOf_any n s W hn hs)
    have HV := fun W p c b h => Lib.hid (refToValue_any n ((fmt n).refN (numOfS (fmt n) s)) p c b W hn h F.len ⟨F.lo, F.hi⟩)
    rw [F.same] at HV
    rw [hd, h0] at HD
    rw [h0] at HO
    have hvl := F.vlen
    generalize (fmt n).valN (numOfS (fmt n) s) = v at *
    generalize (fmt n).refN (numOfS (fmt n) s) = u at *
    generalize (fmt n).neg (numOfS (fmt n) s) = g at *
    clear F hd
    have hT56 : SxAgg Tryd.prog 56 4 := sxAgg_of (by kernel_rfl) (by kernel_rfl)
    have hT61 : SxAgg Tryd.prog 61 5 := sxAgg_of (by kernel_rfl) (by kernel_rfl)
    refine calls_of_wp Tryd.func4 rfl ?_
    refine sx_frame (a' := ⟨((.int .i64 n) :: (.string s) :: us 40 []).toArray, []⟩) (by kernel_rfl) ?_
    refine yq ?_
    refine ye ?_
    refine yc 2 rfl 14 ((HD w hT).out) (fun Gx hGx => ?_)
    rintro eV1 V1 ⟨p14, c14, rfl, o14, hbV1⟩
    have hzV1 := hbV1.size
    refine ⟨_, rfl, hGx _ _ ?_⟩
    clear hGx Gx
    refine yw 3 rfl 5 #[.int .i64 0, .bool false, .slice none 0 0, .int .i64 0] 56 (fun V2 hbV2 hzV2 b5 => ?_)
    have boV3 := b5
    refine ysw 0 rfl b5 hT56 #[.int .i64 ((v.cls : Nat) : Int), .bool v.neg, .slice p14 (dig B32 v.d).length c14, .int .i64 v.pow] ?_
    clear b5
    intro V3 hOV3 b5
    have hzV3 := hOV3.size
    refine yzt 1 ?_
    refine ye ?_
    refine yc 2 rfl 19 ((HO V3).out) (fun Gx hGx => ?_)
    rintro eV4 V4 ⟨rfl, hbV4⟩
    have hzV4 := hbV4.size
    refine ⟨_, rfl, hGx _ _ ?_⟩
    clear hGx Gx
    refine yzt 1 ?_
    refine ye ?_
    refine yw 0 rfl 8 #[.int .i64 0, .bool false, .slice none 0 0, .int .i64 0] 56 (fun V5 hbV5 hzV5 b8 => ?_)
    refine yzt 0 ?_
    refine wp_seq ?_
    refine yq ?_
    refine yT ?_
    refine ye ?_
    refine yc 2 rfl 25 ((HR V5).out) (fun Gx hGx => ?_)
    rintro eV6 V6 ⟨p25, c25, rfl, o25, hbV6⟩
    have hzV6 := hbV6.size
    have lo25 := fun h => o25.lt h
    refine ⟨_, rfl, hGx _ _ ?_⟩
    clear hGx Gx
    refine yw 3 rfl 9 #[.int .i64 0, .bool false, .bool false, .slice none 0 0, .int .i64 0] 61 (fun V7 hbV7 hzV7 b9 => ?_)
    have boV8 := b9
    refine ysw 0 rfl b9 hT61 #[.int .i64 ((u.cls : Nat) : Int), .bool u.neg, .bool u.x.neg, .slice p25 (dig B16 u.x.m).length c25, .int .i64 u.x.e] ?_
    clear b9
    intro V8 hOV8 b9
    have hzV8 := hOV8.size
    refine yzt 1 ?_
    refine sx_region ?_
    refine yla 1 rfl 29 b9 hT61 0 ?_
    replace o25 := (o25.past (hbV7.trans (hOV8.below (by omega))))
    refine yc 0 rfl 30 ((HV V8 p25 c25 _ o25).out) (fun Gx hGx => ?_)
    rintro eV9 V9 ⟨p30, c30, rfl, o30, hbV9⟩
    have hzV9 := hbV9.size
    refine ⟨_, rfl, hGx _ _ ?_⟩
    clear hGx Gx
    replace b8 := (b8.past (bthru ((bthru hbV6 hbV7).trans (hOV8.below (by omega))) hbV9))
    have boV10 := b8
    refine ysw 0 rfl b8 hT56 #[.int .i64 ((v.cls : Nat) : Int), .bool v.neg, .slice p30 (dig B32 v.d).length c30, .int .i64 v.pow] ?_
    clear b8
    intro V10 hOV10 b8
    have hzV10 := hOV10.size
    refine yz 0 ?_
    refine sx_then ?_
    refine ye ?_
    replace hT := (hT.past ((bthru ((bthru (bthru (bthru (bthru ((bthru hbV1 hbV2).trans (hOV3.below (by omega))) hbV4) hbV5) hbV6) hbV7).trans (hOV8.below (by omega))) hbV9).trans (hOV10.below (by omega))))
    refine yc 0 rfl 31 (codecBegun_any V10 hT) (fun Gx hGx => ?_)
    rintro eV11 V11 ⟨rfl, hbV11⟩
    have hzV11 := hbV11.size
    refine ⟨_, rfl, hGx _ _ ?_⟩
    clear hGx Gx
    replace b5 := (b5.past (bthru ((bthru ((bthru (bthru (bthru hbV4 hbV5) hbV6) hbV7).trans (hOV8.below (by omega))) hbV9).trans (hOV10.below (by omega))) hbV11))
    refine yla 6 rfl 38 b5 hT56 0 ?_
    replace b8 := (b8.past hbV11)
    refine yla 0 rfl 39 b8 hT56 0 ?_
    replace o14 := (o14.past (bthru ((bthru ((bthru (bthru (bthru (bthru (hbV2.trans (hOV3.below (by omega))) hbV4) hbV5) hbV6) hbV7).trans (hOV8.below (by omega))) hbV9).trans (hOV10.below (by omega))) hbV11))
    replace o30 := ((o30.put boV10 hOV10 (by kernel_rfl)).past hbV11)
    refine yc 0 rfl 40 (refSameValue_any v p14 p30 c14 c30 _ _ V11 o14 o30 (by omega)) (fun Gx hGx => ?_)
    rintro eV12 V12 ⟨rfl, hbV12⟩
    have hzV12 := hbV12.size
    refine ⟨_, rfl, hGx _ _ ?_⟩
    clear hGx Gx
    refine yzt 2 ?_
    refine wp_ret ?_
    repeat (first | with_reducible refine sx_thenret ?_ | with_reducible refine sx_blockret ?_)
    refine yret (.bool true) (res1 Tryd.results4 rvt) ?_
    exact ⟨rfl, (bthru (bthru ((bthru ((bthru (bthru (bthru (bthru ((bthru hbV1 hbV2).trans (hOV3.below (by omega))) hbV4) hbV5) hbV6) hbV7).trans (hOV8.below (by omega))) hbV9).trans (hOV10.below (by omega))) hbV11) hbV12)⟩
  · have hd : decP n s = zeroVl := by unfold decP; rw [if_neg h0]
    rw [hd] at HD
    generalize errPat n s = er at *
    have hT56 : SxAgg Tryd.prog 56 4 := sxAgg_of (by kernel_rfl) (by kernel_rfl)
    refine calls_of_wp Tryd.func4 rfl ?_
    refine sx_frame (a' := ⟨((.int .i64 n) :: (.string s) :: us 40 []).toArray, []⟩) (by kernel_rfl) ?_
    refine yq ?_
    refine ye ?_
    refine yc 2 rfl 14 ((HD w hT).out) (fun Gx hGx => ?_)
    rintro eV1 V1 ⟨p14, c14, rfl, o14, hbV1⟩
    have hzV1 := hbV1.size
    refine ⟨_, rfl, hGx _ _ ?_⟩
    clear hGx Gx
    refine yw 3 rfl 5 #[.int .i64 0, .bool false, .slice none 0 0, .int .i64 0] 56 (fun V2 hbV2 hzV2 b5 => ?_)
    have boV3 := b5
    refine ysw 0 rfl b5 hT56 #[.int .i64 ((zeroVl.cls : Nat) : Int), .bool zeroVl.neg, .slice p14 (dig B32 zeroVl.d).length c14, .int .i64 zeroVl.pow] ?_
    clear b5
    intro V3 hOV3 b5
    have hzV3 := hOV3.size
    refine yzt 1 ?_
    refine ye ?_
    refine yc 2 rfl 19 ((HO V3).out) (fun Gx hGx => ?_)
    rintro eV4 V4 ⟨rfl, hbV4⟩
    have hzV4 := hbV4.size
    refine ⟨_, rfl, hGx _ _ ?_⟩
    clear hGx Gx
    refine yzt 1 ?_
    refine ye ?_
    refine yw 0 rfl 8 #[.int .i64 0, .bool false, .slice none 0 0, .int .i64 0] 56 (fun V5 hbV5 hzV5 b8 => ?_)
    refine yzt 0 ?_
    refine wp_seq ?_
    refine ye ?_
    refine yb 1 rfl 21 (er == 0) (false) (beq_eq_false_iff_ne.2 h0) ?_
    refine yzt 0 ?_
    refine yF ?_
    refine wp_skip ?_
    refine sx_then ?_
    refine ye ?_
    replace hT := (hT.past (bthru (bthru ((bthru hbV1 hbV2).trans (hOV3.below (by omega))) hbV4) hbV5))
    refine yc 0 rfl 31 (codecBegun_any V5 hT) (fun Gx hGx => ?_)
    rintro eV6 V6 ⟨rfl, hbV6⟩
    have hzV6 := hbV6.size
    refine ⟨_, rfl, hGx _ _ ?_⟩
    clear hGx Gx
    refine yb 3 rfl 35 (er == er) (true) (beq_self_eq_true _) ?_
    replace b5 := (b5.past (bthru (bthru hbV4 hbV5) hbV6))
    refine yla 2 rfl 38 b5 hT56 0 ?_
    replace b8 := (b8.past hbV6)
    refine yla 0 rfl 39 b8 hT56 0 ?_
    replace o14 := (o14.past (bthru (bthru (bthru (hbV2.trans (hOV3.below (by omega))) hbV4) hbV5) hbV6))
    refine yc 0 rfl 40 (sameZero_any p14 c14 _ V6 o14) (fun Gx hGx => ?_)
    rintro eV7 V7 ⟨rfl, hbV7⟩
    have hzV7 := hbV7.size
    refine ⟨_, rfl, hGx _ _ ?_⟩
    clear hGx Gx
    refine yzt 2 ?_
    refine wp_ret ?_
    repeat (first | with_reducible refine sx_thenret ?_ | with_reducible refine sx_blockret ?_)
    refine yret (.bool true) (res1 Tryd.results4 rvt) ?_
    exact ⟨rfl, (bthru (bthru (bthru (bthru ((bthru hbV1 hbV2).trans (hOV3.below (by omega))) hbV4) hbV5) hbV6) hbV7)⟩

set_option maxRecDepth 100000 in
theorem codecClasses_row (n : Int) (s : ByteArray) (w : World) (hT : TabW w) : Calls Tryd.prog 8 #[.int .i64 n, .string s] w fun en w' => en = .returned (.bool true) ∧ Below w.heap.size w w' := by
  have HD := fun W h => Lib.hid (Class_any n s W h)
  have HO := fun W => Lib.hid (refOpen_any n s W)
  by_cases h0 : errPat n s = 0
  · obtain ⟨hn, hs⟩ := errPat_zero.1 h0
    have hd : decP n s = (fmt n).valN (numOfS (fmt n) s) := by unfold decP; rw [if_pos h0]
    have HR := fun W => Lib.hid (refDecodeOf_any n s W hn hs)
    have hc : ((fmt n).valN (numOfS (fmt n) s)).cls = ((fmt n).refN (numOfS (fmt n) s)).cls := rfl
    rw [hd, h0, hc, if_pos rfl] at HD
    rw [h0] at HO
    generalize (fmt n).refN (numOfS (fmt n) s) = u at *
    generalize (fmt n).neg (numOfS (fmt n) s) = g at *
    clear hd
    have hT3 : SxOne Tryd.prog 3 := sxOne_of (by kernel_rfl) (by kernel_rfl)
    have hT61 : SxAgg Tryd.prog 61 5 := sxAgg_of (by kernel_rfl) (by kernel_rfl)
    refine calls_of_wp Tryd.func8 rfl ?_
    refine sx_frame (a' := ⟨((.int .i64 n) :: (.string s) :: us 48 []).toArray, []⟩) (by kernel_rfl) ?_
    refine yq ?_
    refine ye ?_
    refine yc 2 rfl 16 ((HD w hT).out) (fun Gx hGx => ?_)
    rintro eV1 V1 ⟨rfl, hbV1⟩
    have hzV1 := hbV1.size
    refine ⟨_, rfl, hGx _ _ ?_⟩
    clear hGx Gx
    refine yzt 7 ?_
    refine ye ?_
    refine yc 2 rfl 22 ((HO V1).out) (fun Gx hGx => ?_)
    rintro eV2 V2 ⟨rfl, hbV2⟩
    have hzV2 := hbV2.size
    refine ⟨_, rfl, hGx _ _ ?_⟩
    clear hGx Gx
    refine yzt 1 ?_
    refine yq ?_
    refine wp_seq ?_
    refine yq ?_
    refine yT ?_
    refine ye ?_
    refine yc 2 rfl 28 ((HR V2).out) (fun Gx hGx => ?_)
    rintro eV3 V3 ⟨p25, c25, rfl, o25, hbV3⟩
    have hzV3 := hbV3.size
    have lo25 := fun h => o25.lt h
    refine ⟨_, rfl, hGx _ _ ?_⟩
    clear hGx Gx
    refine yw 3 rfl 11 #[.int .i64 0, .bool false, .bool false, .slice none 0 0, .int .i64 0] 61 (fun V4 hbV4 hzV4 b11 => ?_)
    have boV5 := b11
    refine ysw 0 rfl b11 hT61 #[.int .i64 ((u.cls : Nat) : Int), .bool u.neg, .bool u.x.neg, .slice p25 (dig B16 u.x.m).length c25, .int .i64 u.x.e] ?_
    clear b11
    intro V5 hOV5 b11
    have hzV5 := hOV5.size
    refine yzt 1 ?_
    refine sx_region ?_
    refine yl 1 rfl 32 b11 hT3 0 ?_
    refine yz 3 ?_
    refine sx_then ?_
    refine ye ?_
    replace hT := (hT.past ((bthru (bthru (bthru hbV1 hbV2) hbV3) hbV4).trans (hOV5.below (by omega))))
    refine yc 0 rfl 34 (codecBegun_any V5 hT) (fun Gx hGx => ?_)
    rintro eV6 V6 ⟨rfl, hbV6⟩
    have hzV6 := hbV6.size
    refine ⟨_, rfl, hGx _ _ ?_⟩
    clear hGx Gx
    refine yb 8 rfl 43 (((u.cls : Nat) : Int) == ((u.cls : Nat) : Int)) (true) (beq_self_eq_true _) ?_
    refine yb 4 rfl 48 (g == g) (true) (beq_self_eq_true _) ?_
    refine yzt 2 ?_
    refine wp_ret ?_
    repeat (first | with_reducible refine sx_thenret ?_ | with_reducible refine sx_blockret ?_)
    refine yret (.bool true) (res1 Tryd.results8 rvt) ?_
    exact ⟨rfl, (bthru ((bthru (bthru (bthru hbV1 hbV2) hbV3) hbV4).trans (hOV5.below (by omega))) hbV6)⟩
  · have hd : decP n s = zeroVl := by unfold decP; rw [if_neg h0]
    rw [hd, if_neg h0] at HD
    generalize errPat n s = er at *
    refine calls_of_wp Tryd.func8 rfl ?_
    refine sx_frame (a' := ⟨((.int .i64 n) :: (.string s) :: us 48 []).toArray, []⟩) (by kernel_rfl) ?_
    refine yq ?_
    refine ye ?_
    refine yc 2 rfl 16 ((HD w hT).out) (fun Gx hGx => ?_)
    rintro eV1 V1 ⟨rfl, hbV1⟩
    have hzV1 := hbV1.size
    refine ⟨_, rfl, hGx _ _ ?_⟩
    clear hGx Gx
    refine yzt 7 ?_
    refine ye ?_
    refine yc 2 rfl 22 ((HO V1).out) (fun Gx hGx => ?_)
    rintro eV2 V2 ⟨rfl, hbV2⟩
    have hzV2 := hbV2.size
    refine ⟨_, rfl, hGx _ _ ?_⟩
    clear hGx Gx
    refine yzt 1 ?_
    refine yq ?_
    refine wp_seq ?_
    refine ye ?_
    refine yb 1 rfl 24 (er == 0) (false) (beq_eq_false_iff_ne.2 h0) ?_
    refine yzt 0 ?_
    refine yF ?_
    refine wp_skip ?_
    refine sx_then ?_
    refine ye ?_
    replace hT := (hT.past (bthru hbV1 hbV2))
    refine yc 0 rfl 34 (codecBegun_any V2 hT) (fun Gx hGx => ?_)
    rintro eV3 V3 ⟨rfl, hbV3⟩
    have hzV3 := hbV3.size
    refine ⟨_, rfl, hGx _ _ ?_⟩
    clear hGx Gx
    refine yb 3 rfl 38 (er == er) (true) (beq_self_eq_true _) ?_
    refine yb 9 rfl 48 (false == false) (true) (rfl) ?_
    refine yzt 2 ?_
    refine wp_ret ?_
    repeat (first | with_reducible refine sx_thenret ?_ | with_reducible refine sx_blockret ?_)
    refine yret (.bool true) (res1 Tryd.results8 rvt) ?_
    exact ⟨rfl, (bthru (bthru hbV1 hbV2) hbV3)⟩
end Go.Proofs.YtcipdimogodndaaDoor
