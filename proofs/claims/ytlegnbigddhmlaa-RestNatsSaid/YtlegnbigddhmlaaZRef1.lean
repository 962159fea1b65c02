/- The references' small functions on digits: what each computes. -/
import Derived.Test.YtlegnbigddhmlaaZC
import Derived.Deep.RegionHeld3
namespace Go.Proofs.Ytlegnbigddhmlaa
open Go.RowKit Go.Slip

/-- What a reference that answers a slice leaves: it reads so, in memory of its own; all that was there is as it was. -/
def GivesR (w : World) (k : IntKind) (xs : List Nat) (en : Ending) (w' : World) : Prop :=
  ∃ p c, en = .returned (.slice p xs.length c) ∧ Rd w' k p xs ∧ xs.length ≤ c ∧ (0 < xs.length → w.heap.size ≤ blk p) ∧ Below w.heap.size w w'

theorem own_blk {w : World} {base : Nat} {k : IntKind} {e : TypeId} {p : Option Addr} {c : Nat} {xs : List Nat} (h : Own w base k e p c xs) (h0 : 0 < xs.length) : base ≤ blk p :=
  (h.blk_lt (h.rd.solid h0).1).1

theorem givesR_of {w w' : World} {k : IntKind} {e : TypeId} {xs ys : List Nat} {p : Option Addr} {n c : Nat} (h : xs = ys) (hn : n = xs.length) (ho : Own w' w.heap.size k e p c xs) (hb : Below w.heap.size w w') : GivesR w k ys (.returned (.slice p n c)) w' := by
  subst h hn; exact ⟨p, c, rfl, ho.rd, ho.le_cap, own_blk ho, hb⟩

theorem Rd.kept {w w' : World} {k : IntKind} {p : Option Addr} {xs : List Nat} (h : Rd w k p xs) (hb : Below w.heap.size w w') : Rd w' k p xs := h.past hb

set_option maxHeartbeats 400000 in
theorem refCheckNat_any (p : Option Addr) (n c : Nat) (xs : List Nat) (w : World) (hr : Rd w .u32 p xs) (hn : n = xs.length) (hl : xs.length ≤ 9223372036854775807) :
    Calls Try.prog 32 #[.slice p n c] w fun e w' => e = .returned (.int .i64 (errNat xs)) ∧ w = w' := by
  subst hn
  have hs := hr.solid
  by_cases h1 : 0 < xs.length
  · have hcell := hr.cells (xs.length - 1) (by omega)
    have t1 : (0 : Int) < (xs.length : Int) := by omega
    by_cases h2 : dg xs (xs.length - 1) = 0
    · rw [h2] at hcell
      have H := Lib.hid (show errNat xs = 1 by unfold errNat; rw [if_pos ⟨h1, h2⟩])
      clear h2
      go_enter Try.func32, Try.ntmps32
      go_wp2
      go_ret
      exact ⟨ret_int H.out.symm, rfl⟩
    · have h3 : 0 < dg xs (xs.length - 1) := by omega
      have H := Lib.hid (show errNat xs = if 1200 < xs.length then 2 else 0 by unfold errNat; rw [if_neg (fun h => h2 h.2)])
      clear h2
      by_cases h4 : 1200 < xs.length
      · go_enter Try.func32, Try.ntmps32
        go_wp2
        go_ret
        exact ⟨ret_int (by rw [H.out, if_pos h4]), rfl⟩
      · go_enter Try.func32, Try.ntmps32
        go_wp2
        go_ret
        exact ⟨ret_int (by rw [H.out, if_neg h4]), rfl⟩
  · obtain rfl : xs = [] := List.eq_nil_of_length_eq_zero (by omega)
    go_enter Try.func32, Try.ntmps32
    go_wp2
    go_ret
    exact ⟨ret_int (by simp [errNat]), rfl⟩

/-- What is wrong with two. -/
def err2 (xs ys : List Nat) : Int := if errNat xs = 0 then errNat ys else errNat xs

set_option maxHeartbeats 400000 in
theorem refTwoNats_any (p q : Option Addr) (n c m d : Nat) (xs ys : List Nat) (w : World) (hp : Rd w .u32 p xs) (hq : Rd w .u32 q ys) (hn : n = xs.length) (hm : m = ys.length) (hl : xs.length ≤ 9223372036854775807) (hl2 : ys.length ≤ 9223372036854775807) :
    Calls Try.prog 13 #[.slice p n c, .slice q m d] w fun e w' => e = .returned (.int .i64 (err2 xs ys)) ∧ w = w' := by
  subst hn hm
  have H := Lib.hid (show err2 xs ys = if errNat xs = 0 then errNat ys else errNat xs from rfl)
  by_cases h : errNat xs = 0
  · have hb : (errNat xs == 0) = true := by simpa using h
    have h1 := Lib.hid h
    clear h
    go_enter Try.func13, Try.ntmps13
    go_wp2_with fail
    refine (refCheckNat_any p _ c xs _ hp rfl hl).mono ?_
    rintro e w1 ⟨rfl, rfl⟩
    go_wp2_with fail
    refine (refCheckNat_any q _ d ys _ hq rfl hl2).mono ?_
    rintro e w1 ⟨rfl, rfl⟩
    go_wp2_with fail
    go_ret
    exact ⟨ret_int (by rw [H.out, if_pos h1.out]), rfl⟩
  · have hb : (errNat xs == 0) = false := by simpa using h
    have h1 := Lib.hid h
    clear h
    go_enter Try.func13, Try.ntmps13
    go_wp2_with fail
    refine (refCheckNat_any p _ c xs _ hp rfl hl).mono ?_
    rintro e w1 ⟨rfl, rfl⟩
    go_wp2_with fail
    go_ret
    exact ⟨ret_int (by rw [H.out, if_neg h1.out]), rfl⟩

set_option maxHeartbeats 400000 in
theorem refTrim_any (p : Option Addr) (n c : Nat) (xs : List Nat) (w : World) (hr : Rd w .i64 p xs) (hn : n = xs.length) (hc : xs.length ≤ c) (hx : ∀ x ∈ xs, x < B16) (hl : xs.length ≤ 4000000000) :
    Calls Try.prog 33 #[.slice p n c] w fun e w' => e = .returned (.slice p (dig B16 (val B16 xs)).length (dig B16 (val B16 xs)).length) ∧ w = w' := by
  subst hn
  go_enter Try.func33, Try.ntmps33
  go_wp2
  go_loop [3] (fun s => ∃ m : Nat, s = .int .i64 m ∧ m ≤ xs.length ∧ Hid (∀ j, m ≤ j → dg xs j = 0)) (fun s => (intOf s).toNat)
  case atStart => exact ⟨_, rfl, Nat.le_refl _, fun j hj => dg_of_ge hj⟩
  case round =>
    obtain ⟨m, rfl, hm, hz⟩ := hrel
    have hs := hr.solid
    by_cases hm0 : m = 0
    · subst hm0
      have e := Lib.hid (dig_val_len B16_two xs 0 hx hm hz.out (.inl rfl))
      go_wp2
      go_ret
      rw [e.out]
      exact ⟨rfl, rfl⟩
    · have hpos : 0 < m := by omega
      by_cases h0 : dg xs (m - 1) = 0
      · have hcell : w.cell? (at_ p (m - 1)) = some (.int .i64 0) := by rw [hr.cells (m - 1) (by omega), h0]; rfl
        have HZ : Hid (∀ j, m - 1 ≤ j → dg xs j = 0) := fun j hj => by
          by_cases hjm : j = m - 1
          · subst hjm; exact h0
          · exact hz.out j (by omega)
        clear h0 hm0
        go_wp2
        go_round
        case rel => exact ⟨m - 1, by go_num, by omega, HZ⟩
        case measure => simp [intOf]; omega
      · have hcell := hr.cells (m - 1) (by omega)
        have h1 : 0 < dg xs (m - 1) := by omega
        have e := Lib.hid (dig_val_len B16_two xs m hx hm hz.out (.inr h0))
        clear h0 hm0
        go_wp2
        go_ret
        rw [e.out]
        exact ⟨rfl, rfl⟩


/-- What the round of 'Of' knows. -/
def OfRel (O xs : List Nat) (i : Nat) : Prop := (∀ x ∈ O, x < B16) ∧ val B16 O = val B32 (xs.take i)

set_option maxHeartbeats 1000000 in
set_option maxRecDepth 100000 in
theorem refOf_any (p : Option Addr) (n c : Nat) (xs : List Nat) (w : World) (hr : Rd w .u32 p xs) (hn : n = xs.length) (hx : ∀ x ∈ xs, x < B32) (hl : xs.length ≤ 1000000000) :
    Calls Try.prog 16 #[.slice p n c] w (GivesR w .i64 (dig B16 (val B32 xs))) := by
  subst hn
  have HX := Lib.hid hx
  clear hx
  go_enter Try.func16, Try.ntmps16
  go_wp2
  go_loopw [3, 4] (fun ov iv wr => ∃ (i : Nat) (q : Option Addr) (d : Nat) (O : List Nat), iv = .int .i64 i ∧ ov = .slice q O.length d ∧ i ≤ xs.length ∧ Hid (O.length = 2 * i) ∧ Own wr w.heap.size .i64 3 q d O ∧ Below w.heap.size w wr ∧ Hid (OfRel O xs i))
    (fun _ iv _ => xs.length - (intOf iv).toNat)
  case atStart => exact ⟨0, none, 0, [], rfl, rfl, Nat.zero_le _, rfl, Own.nil _ _ _ _, Below.refl _ _, (show OfRel [] xs 0 from ⟨by simp, by simp⟩)⟩
  case round =>
    obtain ⟨i, q, d, O, rfl, rfl, hi, hO, ho, hb, HR⟩ := hrel
    have hr2 := hr.past hb
    have hsz := hb.size
    by_cases hlt : i < xs.length
    · have hcell := hr2.cells i hlt
      have hs := hr2.solid
      have hd := getD_lt (B := 4294967296) (by omega) xs HX.out i
      have HS := Lib.hid (of_step HR.out.1 hO.out HR.out.2 (getD_lt B32_pos xs HX.out i))
      have i0 : (0 : Int) ≤ (i : Int) := by omega
      have i1 : (i : Int) < (xs.length : Int) := by omega
      have e1 : IntKind.i64.wrap ((dg xs i : Nat) : Int) = (dg xs i : Nat) := IntWalk.i64_in _ (by omega)
      have e2 : ((dg xs i : Nat) : Int).tmod 65536 = ((dg xs i : Nat) : Int) % 65536 := Int.tmod_eq_emod_of_nonneg (by omega)
      have e3 : IntKind.i64.wrap (((dg xs i : Nat) : Int) / 65536) = ((dg xs i : Nat) : Int) / 65536 := IntWalk.i64_in _ (by omega)
      go_wp2_with fail
      go_region_held3 (fun w' => w'.cell? (at_ p i) = some (.int .u32 (dg xs i : Nat)))
        (first | go_keep | exact (hr2.drew.laid _).cells i hlt | exact (hr2.laid _).drew.cells i hlt | exact ((hr2.laid _).drew.below hb3 (fun h => hr.lt h)).cells i hlt)
        (first
          | (refine step_append rfl _ _ _ (by rfl) tyN _ _ _ _ _ (ho.laid _).drew rfl _ _ _ _ (own_two wr .i64 3 _ _ (by clear e1 e2 e3; omega) (by clear e1 e2 e3; omega)).drew.rd (by rfl) (by rfl) (by rfl) ?_ ?_ ?_; (have := hO.out; clear e1 e2 e3; simp; omega); (clear e1 e2 e3; simp; omega); intro p3 c3 w3 ho3 hg3 hb3 hn3))
      clear e1 e2 e3
      have e4 : [((dg xs i : Int) % 65536).toNat, ((dg xs i : Int) / 65536).toNat] = [dg xs i % 65536, dg xs i / 65536] := by
        rw [show ((dg xs i : Int) % 65536).toNat = dg xs i % 65536 by omega, show ((dg xs i : Int) / 65536).toNat = dg xs i / 65536 by omega]
      rw [e4] at ho3
      have hb4 := (hb.trans ((((Below.refl _ _).alloc hsz _).drew).trans hb3))
      clear hg3 hn3 hb3 e4 hcell hr2
      go_wp2
      go_roundw
      case rel => exact ⟨i + 1, p3, c3, _, by go_num, by simp, hlt, (by show (O ++ _).length = 2 * (i + 1); have := hO.out; simp; omega), ho3, hb4, HS⟩
      case measure => simp [intOf]; omega
    · obtain rfl : i = xs.length := by omega
      go_wp2_with (go_at_call 33; refine (refTrim_any _ _ _ O _ ho.rd rfl ho.le_cap HR.out.1 (by rw [hO.out]; omega)).mono ?_; rintro e w3 ⟨rfl, rfl⟩)
      go_ret
      have hv : val B16 O = val B32 xs := by rw [HR.out.2, val_take_all _ _ _ (Nat.le_refl _)]
      rw [← hv]
      have ht := take_dig_len B16_two O HR.out.1
      have ho2 := ho.take (dig B16 (val B16 O)).length
      rw [ht] at ho2
      exact ⟨q, _, rfl, ho2.rd, Nat.le_refl _, own_blk ho2, hb⟩

/-- What the round of 'To' knows. -/
def ToRel (O ys : List Nat) (j : Nat) : Prop := (∀ x ∈ O, x < B32) ∧ val B32 O = val B16 (ys.take (2 * j))

set_option maxHeartbeats 1000000 in
set_option maxRecDepth 100000 in
theorem refTo_any (p : Option Addr) (m c : Nat) (n : Nat) (ys : List Nat) (w : World) (hys : ys = dig B16 n) (hr : Rd w .i64 p ys) (hm : m = ys.length) (hl : ys.length ≤ 1000000000) :
    Calls Try.prog 14 #[.slice p m c] w (Gives w .u32 26 (dig B32 n)) := by
  subst hm
  have HY := Lib.hid (show ∀ x ∈ ys, x < B16 by rw [hys]; exact dig_lt B16_two n)
  have HV := Lib.hid (show val B16 ys = n by rw [hys]; exact val_dig B16_two n)
  have HN := Lib.hid hys
  clear hys
  have hs := hr.solid
  go_enter Try.func14, Try.ntmps14
  go_wp2
  go_loopw [3, 4] (fun ov iv wr => ∃ (j : Nat) (q : Option Addr) (d : Nat) (O : List Nat), iv = .int .i64 (2 * (j : Int)) ∧ ov = .slice q O.length d ∧ 2 * j ≤ ys.length + 1 ∧ Hid (O.length = j) ∧ Own wr w.heap.size .u32 26 q d O ∧ Below w.heap.size w wr ∧ Hid (ToRel O ys j))
    (fun _ iv _ => ys.length + 1 - (intOf iv).toNat)
  case atStart => exact ⟨0, none, 0, [], rfl, rfl, Nat.zero_le _, rfl, Own.nil _ _ _ _, Below.refl _ _, (show ToRel [] ys 0 from ⟨by simp, by simp⟩)⟩
  case round =>
    obtain ⟨j, q, d, O, rfl, rfl, hj, hO, ho, hb, HR⟩ := hrel
    have hr2 := hr.past hb
    have hsz := hb.size
    by_cases hlt : 2 * j < ys.length
    · have hcell := hr2.cells (2 * j) hlt
      have hd := getD_lt (B := 65536) (by omega) ys HY.out (2 * j)
      have hd2 := getD_lt (B := 65536) (by omega) ys HY.out (2 * j + 1)
      by_cases h2 : 2 * j + 1 < ys.length
      · have hcell2 := hr2.cells (2 * j + 1) h2
        have HS := Lib.hid (to_step HR.out.1 hO.out HR.out.2 HY.out (dg ys (2 * j) + 65536 * dg ys (2 * j + 1)) rfl)
        go_wp2_with (first
          | (refine wpl_build1 rfl _ _ rfl tyNat _ ?_ rfl ?_; omega; intro p2 w2 ho2 hb2 hz2 hp2)
          | (at_builtin; refine wpl_append rfl _ _ _ rfl tyNat _ _ _ _ _ (ho.past hb2) rfl _ _ _ _ ho2.rd rfl rfl rfl ?_ ?_ ?_; (have := hO.out; simp; omega); (have := hb2.size; omega); intro p3 c3 w3 ho3 hg3 hb3 hn3))
        have e4 : ((dg ys (2 * j) : Int) + 65536 * dg ys (2 * j + 1)).toNat = dg ys (2 * j) + 65536 * dg ys (2 * j + 1) := by omega
        rw [e4] at ho3
        have hb4 := hb.trans ((hb2.mono hsz).trans hb3)
        go_roundw
        case rel => exact ⟨j + 1, p3, c3, _, by go_num, by simp, by omega, (by show (O ++ _).length = j + 1; have := hO.out; simp; omega), ho3, hb4, HS⟩
        case measure => simp [intOf]; omega
      · have ez : dg ys (2 * j + 1) = 0 := dg_of_ge (by omega)
        have HS := Lib.hid (to_step HR.out.1 hO.out HR.out.2 HY.out (dg ys (2 * j)) (by rw [ez]; rfl))
        clear ez hd2
        go_wp2_with (first
          | (refine wpl_build1 rfl _ _ rfl tyNat _ ?_ rfl ?_; omega; intro p2 w2 ho2 hb2 hz2 hp2)
          | (at_builtin; refine wpl_append rfl _ _ _ rfl tyNat _ _ _ _ _ (ho.past hb2) rfl _ _ _ _ ho2.rd rfl rfl rfl ?_ ?_ ?_; (have := hO.out; simp; omega); (have := hb2.size; omega); intro p3 c3 w3 ho3 hg3 hb3 hn3))
        have hb4 := hb.trans ((hb2.mono hsz).trans hb3)
        go_roundw
        case rel => exact ⟨j + 1, p3, c3, _, by go_num, by simp, by omega, (by show (O ++ _).length = j + 1; have := hO.out; simp; omega), ho3, hb4, HS⟩
        case measure => simp [intOf]; omega
    · go_wp2
      go_ret
      have hv : val B32 O = n := by rw [HR.out.2, val_take_all _ _ _ (by omega), HV.out]
      refine gives_of (to_end HR.out.1 ?_ hv) rfl ho hb
      rw [← HN.out, hO.out]; omega

set_option maxHeartbeats 400000 in
theorem refSameNat_any (p q : Option Addr) (n c m d : Nat) (xs ys : List Nat) (w : World) (hp : Rd w .u32 p xs) (hq : Rd w .u32 q ys) (hn : n = xs.length) (hm : m = ys.length) (he : xs = ys) (hl : xs.length ≤ 9223372036854775807) :
    Calls Try.prog 12 #[.slice p n c, .slice q m d] w fun e w' => e = .returned (.bool true) ∧ Below w.heap.size w w' := by
  subst hn hm he
  have hs1 := hp.solid
  have hs2 := hq.solid
  go_enter Try.func12, Try.ntmps12
  go_wp2
  go_loopw [5] (fun iv wr => ∃ (i : Nat), iv = .int .i64 i ∧ i ≤ xs.length ∧ Below w.heap.size w wr) (fun iv _ => xs.length - (intOf iv).toNat)
  case atStart => exact ⟨0, rfl, Nat.zero_le _, Below.refl _ _⟩
  case round =>
    obtain ⟨i, rfl, hi, hb⟩ := hrel
    by_cases hlt : i < xs.length
    · have hc1 := (hp.past hb).cells i hlt
      have hc2 := (hq.past hb).cells i hlt
      have i1 : (i : Int) < (xs.length : Int) := by omega
      have i0 : (0 : Int) ≤ (i : Int) := by omega
      go_wp2_with fail
      go_quiet (fail)
      go_wp2
      go_roundw
      case rel => exact ⟨i + 1, by go_num, hlt, hb.trans (below_drewN (Below.refl _ _) _)⟩
      case measure => simp [intOf]; omega
    · go_wp2
      go_ret
      exact ⟨rfl, hb⟩

end Go.Proofs.Ytlegnbigddhmlaa
