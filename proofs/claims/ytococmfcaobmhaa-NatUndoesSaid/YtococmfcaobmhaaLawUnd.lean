/- The law NatUndoes: its walk. -/
import Derived.Test.YtococmfcaobmhaaLaw0
import Derived.Test.YtococmfcaobmhaaNat9
import Derived.Test.YtococmfcaobmhaaNat7
namespace Go.Proofs.Ytococmfcaobmhaa
open Go.RowKit Go.Slip

theorem bytesOf_strOf (xs : List Nat) (h : ∀ x ∈ xs, x < 256) : bytesOf (strOf xs) = xs := by
  unfold bytesOf
  rw [strOf_data, List.map_map]
  conv => rhs; rw [← List.map_id xs]
  apply List.map_congr_left
  intro x hx
  have := h x hx
  simp
  omega

theorem numOf_rev (D : List Nat) : numOf (D.reverse.map (· + 48)) = val 10 D := by
  induction D with
  | nil => rfl
  | cons x D ih =>
    rw [List.reverse_cons, List.map_append, List.map_cons, List.map_nil, numOf_snoc, ih, val_cons]
    omega

theorem decOf_num (a : Nat) : numOf (decOf a) = a := by
  unfold decOf
  split
  · rename_i h; subst h; rfl
  · rw [numOf_rev, val_dig (by omega)]

theorem decOf_dig (a : Nat) : ∀ x ∈ decOf a, 48 ≤ x ∧ x ≤ 57 := by
  unfold decOf
  split
  · simp
  · intro x hx
    obtain ⟨y, hy, rfl⟩ := List.mem_map.1 hx
    have := dig_lt (B := 10) (by omega) a y (List.mem_reverse.1 hy)
    omega

theorem decOf_len_le {a k : Nat} (h : (dig B32 a).length ≤ k) (hk : 1 ≤ k) : (decOf a).length ≤ 10 * k := by
  unfold decOf
  split
  · simp; omega
  · rw [List.length_map, List.length_reverse, dig_len_le (by omega)]
    have h1 := (dig_len_le B32_two a k).1 h
    have h2 : B32 ^ k ≤ (10 ^ 10) ^ k := Nat.pow_le_pow_left (by unfold B32; omega) _
    rw [← Nat.pow_mul] at h2
    exact Nat.lt_of_lt_of_le h1 h2

theorem decOf_len {a : Nat} (h : (dig B32 a).length ≤ 1200) : (decOf a).length ≤ 12000 := decOf_len_le h (by omega)

theorem decOf_first (a : Nat) : (decOf a).length ≠ 0 ∧ ¬ (dg (decOf a) 0 = 48 ∧ 1 < (decOf a).length) := by
  unfold decOf
  split
  · simp
  · rename_i h0
    have hp : 0 < a := by omega
    have hl : 0 < (dig 10 a).length := List.length_pos_iff.2 ((dig_spec (by omega) a).2.2.2 hp)
    refine ⟨by rw [List.length_map, List.length_reverse]; omega, fun h => ?_⟩
    have h1 := h.1
    rw [dg_of_lt (by simpa using hl)] at h1
    simp at h1
    have h2 := dig_tight (B := 10) (by omega) a
    unfold Tight at h2
    rw [List.getLast?_eq_getElem?, List.getElem?_eq_getElem (by omega)] at h2
    exact h2 (by rw [h1])

theorem formOk_dec {a : Nat} : formOk (strOf (decOf a)) ∧ numOf (bytesOf (strOf (decOf a))) = a := by
  have hb := bytesOf_strOf (decOf a) (fun x hx => by have := decOf_dig a x hx; omega)
  refine ⟨⟨fun j hj => ?_, ?_, ?_⟩, by rw [hb, decOf_num]⟩
  · rw [hb]
    rw [strOf_size] at hj
    rw [dg_of_lt hj]
    exact decOf_dig a _ (List.getElem_mem hj)
  · rw [strOf_size]; exact (decOf_first a).1
  · rw [hb, strOf_size]; exact (decOf_first a).2

theorem natRead_print (a : Nat) (w : World) (h : (dig B32 a).length ≤ 1200) : Calls Try.prog 33 #[.string (strOf (decOf a))] w (GivesE w (dig B32 a) 0) := by
  have h1 := natRead_any (strOf (decOf a)) w
  have hs : ¬ 12000 < (strOf (decOf a)).size := by rw [strOf_size]; have := decOf_len h; omega
  rw [errRead_ok hs formOk_dec.1, formOk_dec.2] at h1
  have e := natE_good (e := 0) rfl h
  rw [natL_good e, e] at h1
  exact h1



set_option maxHeartbeats 2000000 in
set_option maxRecDepth 100000 in
theorem lawUnd_good (p q : Option Addr) (n c m d : Nat) (a b : Nat) (w : World)
    (hp : Rd w .u32 p (dig B32 a)) (hn : n = (dig B32 a).length) (lx : (dig B32 a).length ≤ 1200) (hq : Rd w .u32 q (dig B32 b)) (hm : m = (dig B32 b).length) (ly : (dig B32 b).length ≤ 1200) (lr : (dig B32 (a + b)).length ≤ 1200) :
    Calls Try.prog 14 #[.slice p n c, .slice q m d] w fun e w' => e = .returned (.bool true) ∧ Below w.heap.size w w' := by
  subst hn hm
  have hPE := Lib.hid (errNat_dig lx)
  have hPS := Lib.hid (show printS (dig B32 a) = strOf (decOf a) by unfold printS; rw [if_pos (errNat_dig lx), val_dig B32_two])
  have hS := Lib.hid (show a + b - b = a by omega)
  have hC := Lib.hid (Nat.add_comm b a)
  go_enter Try.func14, Try.ntmps14
  go_wp2_with fail
  refine (natBegun_any _).mono ?_
  rintro e w1 ⟨rfl, hb1⟩
  go_wp2_with fail
  refine (natAdd_good p q _ c _ d a b _ (hp.past hb1) (hq.past hb1) rfl rfl lx ly lr).mono ?_
  rintro e w2 ⟨p2, c2, rfl, ho2, hb2⟩
  have hs2 := hb1.trans (hb2.mono hb1.size)
  go_wp2_with fail
  refine (natSub_good p2 q _ c2 _ d (a + b) b _ ho2.rd (hq.past hs2) rfl rfl lr ly (by omega)).mono ?_
  rw [hS.out]
  rintro e w3 ⟨p3, c3, rfl, ho3, hb3⟩
  have hs3 := hs2.trans (hb3.mono hs2.size)
  go_wp2_with fail
  refine (natAdd_good q p _ d _ c b a _ (hq.past hs3) (hp.past hs3) rfl rfl ly lx (by rw [hC.out]; exact lr)).mono ?_
  rw [hC.out]
  rintro e w4 ⟨p4, c4, rfl, ho4, hb4⟩
  have hs4 := hs3.trans (hb4.mono hs3.size)
  have hr2 := (ho2.rd.past hb3).past hb4
  have hr3 := ho3.rd.past hb4
  clear hb1 hb2 hb3 hb4 hs2 hs3 ho2 ho3
  go_wp2_with fail
  refine (refSameNat_any p3 p _ c3 _ c _ _ _ hr3 (hp.past hs4) rfl rfl rfl (by omega)).mono ?_
  rintro e w5 ⟨rfl, hb5⟩
  have hs5 := hs4.trans (hb5.mono hs4.size)
  go_wp2_with fail
  refine (refSameNat_any p2 p4 _ c2 _ c4 _ _ _ (hr2.past hb5) (ho4.rd.past hb5) rfl rfl rfl (by omega)).mono ?_
  rintro e w6 ⟨rfl, hb6⟩
  have hsP := hs5.trans (hb6.mono hs5.size)
  clear hb5 hb6 hs4 hs5 ho4 hr2 hr3
  go_wp2_with fail
  refine (natPrint_any p _ c (dig B32 a) _ (hp.past hsP) rfl (by omega) (dig_lt B32_two a)).mono ?_
  rw [hPS.out, hPE.out]
  rintro e wp ⟨rfl, hbp⟩
  have hsp := hsP.trans (hbp.mono hsP.size)
  go_wp2_with fail
  refine (natRead_print a _ lx).mono ?_
  rintro e wq ⟨pq, cq, rfl, hoq, hbq⟩
  have hsq := hsp.trans (hbq.mono hsp.size)
  go_wp2_with fail
  refine (refSameNat_any pq p _ cq _ c _ _ _ hoq.rd (hp.past hsq) rfl rfl rfl (by omega)).mono ?_
  rintro e wz ⟨rfl, hbz⟩
  go_wp2_with fail
  go_ret
  exact ⟨rfl, hsq.trans (hbz.mono hsq.size)⟩

set_option maxHeartbeats 2000000 in
set_option maxRecDepth 100000 in
theorem lawUnd_print (p q : Option Addr) (n c m d : Nat) (a : Nat) (ys : List Nat) (w : World)
    (hp : Rd w .u32 p (dig B32 a)) (hn : n = (dig B32 a).length) (lx : (dig B32 a).length ≤ 1200) (hq : Rd w .u32 q ys) (hm : m = ys.length) (hl2 : ys.length ≤ 9223372036854775807) (hy : ∀ x ∈ ys, x < B32)
    (he : natE (err2 (dig B32 a) ys) (a + val B32 ys) ≠ 0) :
    Calls Try.prog 14 #[.slice p n c, .slice q m d] w fun e w' => e = .returned (.bool true) ∧ Below w.heap.size w w' := by
  subst hn hm
  have hPE := Lib.hid (errNat_dig lx)
  have hPS := Lib.hid (show printS (dig B32 a) = strOf (decOf a) by unfold printS; rw [if_pos (errNat_dig lx), val_dig B32_two])
  have HA := Lib.hid (fun (w : World) (hp : Rd w .u32 p (dig B32 a)) (hq : Rd w .u32 q ys) => natAdd_any p q _ c _ d (dig B32 a) ys w hp hq rfl rfl (by omega) hl2 (dig_lt B32_two a) hy)
  rw [val_dig B32_two] at HA
  have hb : (natE (err2 (dig B32 a) ys) (a + val B32 ys) == 0) = false := by simpa using he
  clear he
  go_enter Try.func14, Try.ntmps14
  go_wp2_with fail
  refine (natBegun_any _).mono ?_
  rintro e w1 ⟨rfl, hb1⟩
  go_wp2_with fail
  refine (HA.out _ (hp.past hb1) (hq.past hb1)).mono ?_
  rintro e w2 ⟨p2, c2, rfl, ho2, hb2⟩
  have hsP := hb1.trans (hb2.mono hb1.size)
  go_wp2_with fail
  refine (natPrint_any p _ c (dig B32 a) _ (hp.past hsP) rfl (by omega) (dig_lt B32_two a)).mono ?_
  rw [hPS.out, hPE.out]
  rintro e wp ⟨rfl, hbp⟩
  have hsp := hsP.trans (hbp.mono hsP.size)
  go_wp2_with fail
  refine (natRead_print a _ lx).mono ?_
  rintro e wq ⟨pq, cq, rfl, hoq, hbq⟩
  have hsq := hsp.trans (hbq.mono hsp.size)
  go_wp2_with fail
  refine (refSameNat_any pq p _ cq _ c _ _ _ hoq.rd (hp.past hsq) rfl rfl rfl (by omega)).mono ?_
  rintro e wz ⟨rfl, hbz⟩
  go_wp2_with fail
  go_ret
  exact ⟨rfl, hsq.trans (hbz.mono hsq.size)⟩

set_option maxHeartbeats 2000000 in
set_option maxRecDepth 100000 in
theorem lawUnd_err (p q : Option Addr) (n c m d : Nat) (xs ys : List Nat) (w : World)
    (hp : Rd w .u32 p xs) (hn : n = xs.length) (hl : xs.length ≤ 9223372036854775807) (hx : ∀ x ∈ xs, x < B32) (hq : Rd w .u32 q ys) (hm : m = ys.length) (hl2 : ys.length ≤ 9223372036854775807) (hy : ∀ x ∈ ys, x < B32)
    (he : natE (err2 xs ys) (val B32 xs + val B32 ys) ≠ 0) (hx0 : errNat xs ≠ 0) :
    Calls Try.prog 14 #[.slice p n c, .slice q m d] w fun e w' => e = .returned (.bool true) ∧ Below w.heap.size w w' := by
  subst hn hm
  have HA := Lib.hid (fun (w : World) (hp : Rd w .u32 p xs) (hq : Rd w .u32 q ys) => natAdd_any p q _ c _ d xs ys w hp hq rfl rfl hl hl2 hx hy)
  have hb : (natE (err2 xs ys) (val B32 xs + val B32 ys) == 0) = false := by simpa using he
  have hb' : (errNat xs == 0) = false := by simpa using hx0
  have hb'' : (errNat xs != 0) = true := by simpa using hx0
  have HX := Lib.hid hx
  clear he hx0
  go_enter Try.func14, Try.ntmps14
  go_wp2_with fail
  refine (natBegun_any _).mono ?_
  rintro e w1 ⟨rfl, hb1⟩
  go_wp2_with fail
  refine (HA.out _ (hp.past hb1) (hq.past hb1)).mono ?_
  rintro e w2 ⟨p2, c2, rfl, ho2, hb2⟩
  have hsP := hb1.trans (hb2.mono hb1.size)
  go_wp2_with fail
  refine (natPrint_any p _ c xs _ (hp.past hsP) rfl hl HX.out).mono ?_
  rintro e wp ⟨rfl, hbp⟩
  have hsp := hsP.trans (hbp.mono hsP.size)
  go_wp2_with fail
  go_ret
  exact ⟨rfl, hsp⟩

theorem lawUnd_row (p : Option Addr) (n c : Nat) (xs : List Nat) (q : Option Addr) (m d : Nat) (ys : List Nat) (w : World)
    (hp : Rd w .u32 p xs) (hn : n = xs.length) (hl : xs.length ≤ 9223372036854775807) (hx : ∀ x ∈ xs, x < B32)
    (hq : Rd w .u32 q ys) (hm : m = ys.length) (hl2 : ys.length ≤ 9223372036854775807) (hy : ∀ x ∈ ys, x < B32) :
    Calls Try.prog 14 #[.slice p n c, .slice q m d] w fun e w' => e = .returned (.bool true) ∧ Below w.heap.size w w' := by
  by_cases hx0 : errNat xs = 0
  · obtain ⟨ex, lx⟩ := errNat_ok hx hx0
    by_cases he : natE (err2 xs ys) (val B32 xs + val B32 ys) = 0
    · obtain ⟨h1, lr⟩ := natE_zero he
      obtain ⟨_, hys⟩ := err2_ok h1
      obtain ⟨ey, ly⟩ := errNat_ok hy hys
      rw [ex] at hp hn lx
      rw [ey] at hq hm ly
      exact lawUnd_good p q n c m d _ _ w hp hn lx hq hm ly lr
    · rw [ex] at hp hn lx
      rw [ex, val_dig B32_two] at he
      exact lawUnd_print p q n c m d _ ys w hp hn lx hq hm hl2 hy he
  · by_cases he : natE (err2 xs ys) (val B32 xs + val B32 ys) = 0
    · exact absurd (err2_ok (natE_zero he).1).1 hx0
    · exact lawUnd_err p q n c m d xs ys w hp hn hl hx hq hm hl2 hy he hx0

end Go.Proofs.Ytococmfcaobmhaa
