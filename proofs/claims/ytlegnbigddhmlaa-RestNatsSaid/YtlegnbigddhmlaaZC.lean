/- The first functions of package limb, each once: what it computes.
   limb.Add: it adds.
   limb.Mul: it multiplies.
   limb.small: division by one digit.
   limb.Shl, limb.Shr. -/
import Derived.Test.YtlegnbigddhmlaaZTy
import Derived.Deep.RegionLaw
import Derived.Test.YtlegnbigddhmlaaZA
import Derived.Test.YtlegnbigddhmlaaZB
import Derived.Deep.LoopGhost
import Derived.Laws.BitsAllLaws
namespace Go.Proofs.Ytlegnbigddhmlaa
open Go.RowKit Go.Slip

/-- What a function that answers a slice of digits leaves: a row of its own with these digits, all that was there as it was. -/
def Gives (w : World) (k : IntKind) (e : TypeId) (xs : List Nat) (en : Ending) (w' : World) : Prop :=
  ∃ p c, en = .returned (.slice p xs.length c) ∧ Own w' w.heap.size k e p c xs ∧ Below w.heap.size w w'

set_option maxHeartbeats 400000 in
theorem clone_any (p : Option Addr) (n c : Nat) (xs : List Nat) (w : World) (hr : Rd w .u32 p xs) (hn : n = xs.length) (hl : xs.length ≤ 1000000000) :
    Calls Try.prog 39 #[.slice p n c] w (Gives w .u32 26 xs) := by
  cases p with
  | none =>
    obtain rfl : xs = [] := by
      rcases Nat.eq_zero_or_pos xs.length with h | h
      · exact List.eq_nil_of_length_eq_zero h
      · have := (hr.solid h).1; simp at this
    go_enter Try.func39, Try.ntmps39
    go_wp2
    go_ret
    exact ⟨none, 0, rfl, Own.nil _ _ _ _, Below.refl _ _⟩
  | some a =>
    subst hn
    go_enter Try.func39, Try.ntmps39
    go_wp2_with (first
      | (refine wpl_build0 rfl _ rfl tyNat ?_; intro p1 w1 ho1 hb1 hz1 hp1)
      | (at_builtin; refine wpl_append rfl _ _ _ rfl tyNat _ _ _ _ _ ho1 rfl _ _ _ _ (hr.past hb1) rfl rfl rfl ?_ ?_ ?_; (simp; omega); omega; intro p2 c2 w2 ho2 hg2 hb2 hn2))
    go_ret
    exact ⟨p2, c2, rfl, ho2, hb1.trans hb2⟩

set_option maxHeartbeats 400000 in
theorem norm_any (p : Option Addr) (n c : Nat) (xs : List Nat) (w : World) (hr : Rd w .u32 p xs) (hn : n = xs.length) (hc : xs.length ≤ c) (hx : ∀ x ∈ xs, x < B32) (hl : xs.length ≤ 4000000000) :
    Calls Try.prog 41 #[.slice p n c] w fun e w' => e = .returned (.slice p (dig B32 (val B32 xs)).length c) ∧ w = w' := by
  subst hn
  go_enter Try.func41, Try.ntmps41
  go_wp2
  go_loop [0] (fun s => ∃ m : Nat, s = .slice p m c ∧ m ≤ xs.length ∧ Hid (∀ j, m ≤ j → dg xs j = 0)) (fun s => slLen s)
  case atStart => exact ⟨_, rfl, Nat.le_refl _, fun j hj => dg_of_ge hj⟩
  case round =>
    obtain ⟨m, rfl, hm, hz⟩ := hrel
    have hs := hr.solid.mono hm
    by_cases hm0 : m = 0
    · subst hm0
      go_wp2
      go_ret
      exact ⟨ret_slice (dig_val_len B32_two xs 0 hx hm hz.out (.inl rfl)).symm, rfl⟩
    · have hpos : 0 < m := by omega
      by_cases h0 : dg xs (m - 1) = 0
      · have hcell : w.cell? (at_ p (m - 1)) = some (.int .u32 0) := by rw [hr.cells (m - 1) (by omega), h0]; rfl
        have HZ : Hid (∀ j, m - 1 ≤ j → dg xs j = 0) := fun j hj => by
          by_cases hjm : j = m - 1
          · subst hjm; exact h0
          · exact hz.out j (by omega)
        clear h0 hm0
        go_wp2
        go_round
        case rel => exact ⟨m - 1, rfl, by omega, HZ⟩
        case measure => simp [slLen]; omega
      · have hcell := hr.cells (m - 1) (by omega)
        have h1 : 0 < dg xs (m - 1) := by omega
        have H0 := Lib.hid h0
        clear h0 hm0
        go_wp2
        go_ret
        exact ⟨ret_slice (dig_val_len B32_two xs m hx hm hz.out (.inr H0.out)).symm, rfl⟩

set_option maxHeartbeats 400000 in
theorem add32_any (x y c : Nat) (w : World) (hx : x < 4294967296) (hy : y < 4294967296) (hc : c ≤ 1) :
    Calls Try.prog 40 #[.int .u32 x, .int .u32 y, .int .u32 c] w fun e w' =>
      e = .returned (.tuple #[.int .u32 (((x + y + c) % 4294967296 : Nat) : Int), .int .u32 (((x + y + c) / 4294967296 : Nat) : Int)]) ∧ w = w' := by
  go_enter Try.func40, Try.ntmps40
  go_wp2
  go_ret2
  exact ⟨rfl, rfl⟩

end Go.Proofs.Ytlegnbigddhmlaa

namespace Go.Proofs.Ytlegnbigddhmlaa
open Go.RowKit Go.Slip

/-- What the round knows: digits, and what they stand for with what is carried. -/
def AddRel (L ys : List Nat) (i cr : Nat) (a : Nat) : Prop := (∀ x ∈ L, x < B32) ∧ val B32 L + cr * B32 ^ i = a + val B32 (ys.take i)

theorem AddRel.step {L ys : List Nat} {i cr a : Nat} (h : AddRel L ys i cr a) (hi : i < L.length) :
    AddRel (L.set i ((dg L i + dg ys i + cr) % B32)) ys (i + 1) ((dg L i + dg ys i + cr) / B32) a := by
  refine ⟨set_lt L h.1 i _ (Nat.mod_lt _ (by unfold B32; omega)), ?_⟩
  rw [add_step B32 L i _ cr _ hi h.2, val_take_succ]; omega

theorem AddRel.carry {L ys : List Nat} {i cr a : Nat} (h : AddRel L ys i cr a) (hy : ∀ x ∈ ys, x < B32) (hc : cr ≤ 1) : (dg L i + dg ys i + cr) / B32 ≤ 1 := by
  have h1 := getD_lt (B := B32) (by unfold B32; omega) L h.1 i
  have h2 := getD_lt (B := B32) (by unfold B32; omega) ys hy i
  unfold B32 at *; omega

theorem AddRel.done0 {L ys : List Nat} {i a b : Nat} (h : AddRel L ys i 0 a) (hi : ys.length ≤ i) (hy : val B32 ys = b) (hl : L.length = (dig B32 a).length) : L = dig B32 (a + b) := by
  refine add_end0 B32_two L a b h.1 hl ?_
  have := h.2
  rw [val_take_all _ _ _ hi, hy] at this
  omega

theorem AddRel.done1 {L ys : List Nat} {n cr a b : Nat} (h : AddRel L ys n cr a) (hn : L.length = n) (hi : ys.length ≤ n) (hy : val B32 ys = b) (h0 : 0 < cr) (hc : cr ≤ 1) : L ++ [cr] = dig B32 (a + b) := by
  subst hn
  refine add_end1 B32_two L cr _ h.1 h0 (by unfold B32; omega) ?_
  have := h.2
  rw [val_take_all _ _ _ hi, hy] at this
  exact this

theorem AddRel.start (a : Nat) (ys : List Nat) : AddRel (dig B32 a) ys 0 0 a := ⟨dig_lt B32_two a, by simp [val_dig B32_two]⟩

theorem gives_of {w w' : World} {k : IntKind} {e : TypeId} {xs ys : List Nat} {p : Option Addr} {n c : Nat} (h : xs = ys) (hn : n = xs.length) (ho : Own w' w.heap.size k e p c xs) (hb : Below w.heap.size w w') : Gives w k e ys (.returned (.slice p n c)) w' := by
  subst h hn; exact ⟨p, c, rfl, ho, hb⟩

set_option maxHeartbeats 1000000 in
theorem add_ge (p q : Option Addr) (n m c d : Nat) (a b : Nat) (w : World) (hp : Rd w .u32 p (dig B32 a)) (hq : Rd w .u32 q (dig B32 b)) (hn : n = (dig B32 a).length) (hm : m = (dig B32 b).length)
    (hl : (dig B32 a).length ≤ 1000000000) (hge : (dig B32 b).length ≤ (dig B32 a).length) :
    Calls Try.prog 24 #[.slice p n c, .slice q m d] w (Gives w .u32 26 (dig B32 (a + b))) := by
  subst hn hm
  have H0 := Lib.hid (AddRel.start a (dig B32 b))
  have HY := Lib.hid (dig_lt B32_two b)
  have HV := Lib.hid (val_dig B32_two b)
  obtain ⟨xs, hxs⟩ : ∃ xs, xs = dig B32 a := ⟨_, rfl⟩
  have HX : Hid (xs.length = (dig B32 a).length) := by rw [hxs]; rfl
  rw [← hxs] at hp hl hge H0 ⊢
  clear hxs
  generalize dig B32 b = ys at *
  go_enter Try.func24, Try.ntmps24
  go_wp2_with (go_at_call 39; refine (clone_any _ _ _ xs _ hp rfl hl).mono ?_; rintro e w1 ⟨p1, c1, rfl, ho1, hb1⟩)
  go_loopw [6, 20] (fun cv iv wr => ∃ (i cr : Nat) (L : List Nat), iv = .int .i64 i ∧ cv = .int .u32 cr ∧ i ≤ xs.length ∧ cr ≤ 1 ∧ L.length = xs.length ∧ Own wr w.heap.size .u32 26 p1 c1 L ∧ Below w.heap.size w wr ∧ Hid (AddRel L ys i cr a))
    (fun _ iv _ => xs.length - (intOf iv).toNat)
  case atStart => exact ⟨0, 0, xs, rfl, rfl, Nat.zero_le _, by omega, rfl, ho1, hb1, H0⟩
  case round =>
    obtain ⟨i, cr, L, rfl, rfl, hi, hcr, hL, hoL, hbL, HR⟩ := hrel
    have hqL := hq.past hbL
    have HLX : Hid (L.length = (dig B32 a).length) := hL.trans HX.out
    by_cases hlt : i < xs.length
    · have hc1 := hoL.rd.cells i (by omega)
      have hsL := hoL.solid
      rw [hL] at hsL
      have hLd := getD_lt (B := 4294967296) (by omega) L HR.out.1 i
      have hyd := getD_lt (B := 4294967296) (by omega) ys HY.out i
      have HS := HR.out.step (i := i) (by omega)
      have HC := HR.out.carry HY.out hcr (i := i)
      unfold B32 at HS HC
      by_cases hd : i < ys.length
      · have hc2 := hqL.cells i hd
        have hsq := hqL.solid
        have HS' := Lib.hid HS
        have HC' := Lib.hid HC
        clear HS HC
        go_wp2_with (first
          | (go_at_call 40; refine (add32_any _ _ cr _ hLd hyd hcr).mono ?_; rintro e w2 ⟨rfl, rfl⟩)
          | (refine wpl_store rfl _ _ _ rfl 26 tyNat _ _ _ _ hoL i (by omega) _ ?_ rfl rfl ?_; omega; intro w3 ho3 hg3 hb3))
        have e3 : (((dg L i : Int) + dg ys i + cr) % 4294967296).toNat = (dg L i + dg ys i + cr) % 4294967296 := by omega
        rw [e3] at ho3
        go_roundw
        case rel => exact ⟨i + 1, (dg L i + dg ys i + cr) / 4294967296, _, by go_num, by go_num, hlt, HC'.out, by simp [hL], ho3, hbL.trans hb3, HS'⟩
        case measure => simp [intOf]; omega
      · by_cases hc0 : cr = 0
        · subst hc0
          go_wp2
          go_ret
          exact gives_of (HR.out.done0 (by omega) HV.out HLX.out) hL.symm hoL hbL
        · have hcp : 1 ≤ cr := by omega
          have ez : dg ys i = 0 := dg_of_ge (by omega)
          rw [ez] at HS HC
          have HS' := Lib.hid HS
          have HC' := Lib.hid HC
          clear HS HC ez hyd hc0
          go_wp2_with (first
            | (go_at_call 40; refine (add32_any _ 0 cr _ hLd (by omega) hcr).mono ?_; rintro e w2 ⟨rfl, rfl⟩)
            | (refine wpl_store rfl _ _ _ rfl 26 tyNat _ _ _ _ hoL i (by omega) _ ?_ rfl rfl ?_; omega; intro w3 ho3 hg3 hb3))
          have e3 : (((dg L i : Int) + cr) % 4294967296).toNat = (dg L i + 0 + cr) % 4294967296 := by omega
          rw [e3] at ho3
          go_roundw
          case rel => exact ⟨i + 1, (dg L i + 0 + cr) / 4294967296, _, by go_num, by go_num, hlt, HC'.out, by simp [hL], ho3, hbL.trans hb3, HS'⟩
          case measure => simp [intOf]; omega
    · obtain rfl : i = xs.length := by omega
      by_cases hc0 : cr = 0
      · subst hc0
        go_wp2
        go_ret
        exact gives_of (HR.out.done0 hge HV.out HLX.out) hL.symm hoL hbL
      · have hcp : 1 ≤ cr := by omega
        clear hc0
        have HD := Lib.hid (HR.out.done1 hL hge HV.out hcp hcr)
        go_wp2_with (first
          | (refine wpl_build1 rfl _ _ rfl tyNat _ ?_ rfl ?_; omega; intro p2 w2 ho2 hb2 hz2 hp2)
          | (at_builtin; refine wpl_append rfl _ _ _ rfl tyNat _ _ _ _ _ (hoL.past hb2) hL.symm _ _ _ _ ho2.rd rfl rfl rfl ?_ ?_ ?_; (simp; omega); (have := hbL.size; omega); intro p3 c3 w3 ho3 hg3 hb3 hn3))
        go_ret
        exact gives_of HD.out (by simp [hL]) ho3 ((hbL.trans (hb2.mono hbL.size)).trans hb3)

set_option maxHeartbeats 1000000 in
theorem add_lt (p q : Option Addr) (n m c d : Nat) (a b : Nat) (w : World) (hp : Rd w .u32 p (dig B32 a)) (hq : Rd w .u32 q (dig B32 b)) (hn : n = (dig B32 a).length) (hm : m = (dig B32 b).length)
    (hl : (dig B32 a).length ≤ 1000000000) (hgt : (dig B32 b).length < (dig B32 a).length) :
    Calls Try.prog 24 #[.slice q m d, .slice p n c] w (Gives w .u32 26 (dig B32 (a + b))) := by
  have hge := Nat.le_of_lt hgt
  subst hn hm
  have H0 := Lib.hid (AddRel.start a (dig B32 b))
  have HY := Lib.hid (dig_lt B32_two b)
  have HV := Lib.hid (val_dig B32_two b)
  obtain ⟨xs, hxs⟩ : ∃ xs, xs = dig B32 a := ⟨_, rfl⟩
  have HX : Hid (xs.length = (dig B32 a).length) := by rw [hxs]; rfl
  rw [← hxs] at hp hl hgt hge H0 ⊢
  clear hxs
  generalize dig B32 b = ys at *
  go_enter Try.func24, Try.ntmps24
  go_wp2_with (go_at_call 39; refine (clone_any _ _ _ xs _ hp rfl hl).mono ?_; rintro e w1 ⟨p1, c1, rfl, ho1, hb1⟩)
  go_loopw [6, 20] (fun cv iv wr => ∃ (i cr : Nat) (L : List Nat), iv = .int .i64 i ∧ cv = .int .u32 cr ∧ i ≤ xs.length ∧ cr ≤ 1 ∧ L.length = xs.length ∧ Own wr w.heap.size .u32 26 p1 c1 L ∧ Below w.heap.size w wr ∧ Hid (AddRel L ys i cr a))
    (fun _ iv _ => xs.length - (intOf iv).toNat)
  case atStart => exact ⟨0, 0, xs, rfl, rfl, Nat.zero_le _, by omega, rfl, ho1, hb1, H0⟩
  case round =>
    obtain ⟨i, cr, L, rfl, rfl, hi, hcr, hL, hoL, hbL, HR⟩ := hrel
    have hqL := hq.past hbL
    have HLX : Hid (L.length = (dig B32 a).length) := hL.trans HX.out
    by_cases hlt : i < xs.length
    · have hc1 := hoL.rd.cells i (by omega)
      have hsL := hoL.solid
      rw [hL] at hsL
      have hLd := getD_lt (B := 4294967296) (by omega) L HR.out.1 i
      have hyd := getD_lt (B := 4294967296) (by omega) ys HY.out i
      have HS := HR.out.step (i := i) (by omega)
      have HC := HR.out.carry HY.out hcr (i := i)
      unfold B32 at HS HC
      by_cases hd : i < ys.length
      · have hc2 := hqL.cells i hd
        have hsq := hqL.solid
        have HS' := Lib.hid HS
        have HC' := Lib.hid HC
        clear HS HC
        go_wp2_with (first
          | (go_at_call 40; refine (add32_any _ _ cr _ hLd hyd hcr).mono ?_; rintro e w2 ⟨rfl, rfl⟩)
          | (refine wpl_store rfl _ _ _ rfl 26 tyNat _ _ _ _ hoL i (by omega) _ ?_ rfl rfl ?_; omega; intro w3 ho3 hg3 hb3))
        have e3 : (((dg L i : Int) + dg ys i + cr) % 4294967296).toNat = (dg L i + dg ys i + cr) % 4294967296 := by omega
        rw [e3] at ho3
        go_roundw
        case rel => exact ⟨i + 1, (dg L i + dg ys i + cr) / 4294967296, _, by go_num, by go_num, hlt, HC'.out, by simp [hL], ho3, hbL.trans hb3, HS'⟩
        case measure => simp [intOf]; omega
      · by_cases hc0 : cr = 0
        · subst hc0
          go_wp2
          go_ret
          exact gives_of (HR.out.done0 (by omega) HV.out HLX.out) hL.symm hoL hbL
        · have hcp : 1 ≤ cr := by omega
          have ez : dg ys i = 0 := dg_of_ge (by omega)
          rw [ez] at HS HC
          have HS' := Lib.hid HS
          have HC' := Lib.hid HC
          clear HS HC ez hyd hc0
          go_wp2_with (first
            | (go_at_call 40; refine (add32_any _ 0 cr _ hLd (by omega) hcr).mono ?_; rintro e w2 ⟨rfl, rfl⟩)
            | (refine wpl_store rfl _ _ _ rfl 26 tyNat _ _ _ _ hoL i (by omega) _ ?_ rfl rfl ?_; omega; intro w3 ho3 hg3 hb3))
          have e3 : (((dg L i : Int) + cr) % 4294967296).toNat = (dg L i + 0 + cr) % 4294967296 := by omega
          rw [e3] at ho3
          go_roundw
          case rel => exact ⟨i + 1, (dg L i + 0 + cr) / 4294967296, _, by go_num, by go_num, hlt, HC'.out, by simp [hL], ho3, hbL.trans hb3, HS'⟩
          case measure => simp [intOf]; omega
    · obtain rfl : i = xs.length := by omega
      by_cases hc0 : cr = 0
      · subst hc0
        go_wp2
        go_ret
        exact gives_of (HR.out.done0 hge HV.out HLX.out) hL.symm hoL hbL
      · have hcp : 1 ≤ cr := by omega
        clear hc0
        have HD := Lib.hid (HR.out.done1 hL hge HV.out hcp hcr)
        go_wp2_with (first
          | (refine wpl_build1 rfl _ _ rfl tyNat _ ?_ rfl ?_; omega; intro p2 w2 ho2 hb2 hz2 hp2)
          | (at_builtin; refine wpl_append rfl _ _ _ rfl tyNat _ _ _ _ _ (hoL.past hb2) hL.symm _ _ _ _ ho2.rd rfl rfl rfl ?_ ?_ ?_; (simp; omega); (have := hbL.size; omega); intro p3 c3 w3 ho3 hg3 hb3 hn3))
        go_ret
        exact gives_of HD.out (by simp [hL]) ho3 ((hbL.trans (hb2.mono hbL.size)).trans hb3)


theorem add_any (p q : Option Addr) (n m c d : Nat) (a b : Nat) (w : World) (hp : Rd w .u32 p (dig B32 a)) (hq : Rd w .u32 q (dig B32 b)) (hn : n = (dig B32 a).length) (hm : m = (dig B32 b).length)
    (hl : (dig B32 a).length ≤ 1000000000) (hl2 : (dig B32 b).length ≤ 1000000000) :
    Calls Try.prog 24 #[.slice p n c, .slice q m d] w (Gives w .u32 26 (dig B32 (a + b))) := by
  by_cases h : (dig B32 a).length < (dig B32 b).length
  · rw [Nat.add_comm]
    exact add_lt q p m n d c b a w hq hp hm hn hl2 h
  · exact add_ge p q n m c d a b w hp hq hn hm hl (by omega)

end Go.Proofs.Ytlegnbigddhmlaa

namespace Go.Proofs.Ytlegnbigddhmlaa
open Go.RowKit Go.Slip

theorem mulCarry {L xs ys : List Nat} {i k cr : Nat} (h : MulIn B32 L xs ys i k cr) (hc : cr < 4294967296) (hx : dg xs i < 4294967296) (hy : dg ys k < 4294967296) :
    (dg xs i * dg ys k + dg L (i + k) + cr) / 4294967296 < 4294967296 := by
  have := h.carry (by unfold B32; omega) (by unfold B32; omega) (by unfold B32; omega)
  unfold B32 at this
  omega

theorem prod_le {x y : Nat} (hx : x < 4294967296) (hy : y < 4294967296) : (x : Int) * y ≤ 18446744065119617025 ∧ 0 ≤ (x : Int) * y := by
  have h : x * y ≤ 4294967295 * 4294967295 := Nat.mul_le_mul (by omega) (by omega)
  have e : (x : Int) * y = ((x * y : Nat) : Int) := by simp
  rw [e]; omega

theorem mul_nil {p q : Option Addr} {n m c d : Nat} (w : World) (h : n = 0 ∨ m = 0) :
    Calls Try.prog 25 #[.slice p n c, .slice q m d] w (Gives w .u32 26 []) := by
  rcases h with rfl | rfl
  · go_enter Try.func25, Try.ntmps25
    go_wp2
    go_ret
    exact ⟨none, 0, rfl, Own.nil _ _ _ _, Below.refl _ _⟩
  · by_cases hn : n = 0
    · subst hn
      go_enter Try.func25, Try.ntmps25
      go_wp2
      go_ret
      exact ⟨none, 0, rfl, Own.nil _ _ _ _, Below.refl _ _⟩
    · have h1 : ((n : Int) == 0) = false := beq_eq_false_iff_ne.2 (by omega)
      go_enter Try.func25, Try.ntmps25
      go_wp2
      go_ret
      exact ⟨none, 0, rfl, Own.nil _ _ _ _, Below.refl _ _⟩

set_option maxHeartbeats 1000000 in
set_option maxRecDepth 100000 in
theorem mul_pos (p q : Option Addr) (n m c d : Nat) (a b : Nat) (w : World) (xs ys : List Nat) (hxs : xs = dig B32 a) (hys : ys = dig B32 b) (hp : Rd w .u32 p xs) (hq : Rd w .u32 q ys) (hn : n = xs.length) (hm : m = ys.length)
    (h1 : 0 < xs.length) (h2 : 0 < ys.length) (hl : xs.length + ys.length ≤ 1000000000) :
    Calls Try.prog 25 #[.slice p n c, .slice q m d] w (Gives w .u32 26 (dig B32 (a * b))) := by
  subst hn hm
  have HA := Lib.hid (show val B32 xs = a by rw [hxs]; exact val_dig B32_two a)
  have HB := Lib.hid (show val B32 ys = b by rw [hys]; exact val_dig B32_two b)
  have HXL := Lib.hid (show ∀ x ∈ xs, x < B32 by rw [hxs]; exact dig_lt B32_two a)
  have HYL := Lib.hid (show ∀ x ∈ ys, x < B32 by rw [hys]; exact dig_lt B32_two b)
  clear hxs hys
  have hsx := hp.solid
  have hsy := hq.solid
  have t1 : ((xs.length : Int) == 0) = false := beq_eq_false_iff_ne.2 (by omega)
  have t2 : ((ys.length : Int) == 0) = false := beq_eq_false_iff_ne.2 (by omega)
  go_enter Try.func25, Try.ntmps25
  go_wp2_with (refine wpl_make rfl _ _ _ rfl tyNat _ _ (xs.length + ys.length) _ _ rfl rfl ?_ ?_ ?_ ?_; omega; omega; omega; intro p1 c1 w1 ho1 hb1 hz1)
  clear t1 t2
  go_loopw [28] (fun iv wr => ∃ (i : Nat) (L : List Nat), iv = .int .i64 i ∧ i ≤ xs.length ∧ Hid (L.length = xs.length + ys.length) ∧ Own wr w.heap.size .u32 26 p1 c1 L ∧ Below w.heap.size w wr ∧ Hid (MulOut B32 L xs ys i))
    (fun iv _ => xs.length - (intOf iv).toNat)
  case atStart => exact ⟨0, _, rfl, Nat.zero_le _, List.length_replicate, ho1, hb1, MulOut.start B32 (by unfold B32; omega) xs ys _⟩
  case round =>
    obtain ⟨i, L, rfl, hi, hL, hoL, hbL, HR⟩ := hrel
    have hpL := hp.past hbL
    by_cases hlt : i < xs.length
    · have hc1 := hpL.cells i hlt
      go_wp2
      obtain ⟨wo, rfl⟩ : ∃ wo : World, wo = wr := ⟨_, rfl⟩
      go_loopw [8, 35] (fun cv kv wr => ∃ (k cr : Nat) (L : List Nat), kv = .int .i64 k ∧ cv = .int .u64 cr ∧ k ≤ ys.length ∧ cr < 4294967296 ∧ Hid (L.length = xs.length + ys.length) ∧ Own wr w.heap.size .u32 26 p1 c1 L ∧ Below w.heap.size w wr ∧ Hid (MulIn B32 L xs ys i k cr))
        (fun _ kv _ => ys.length - (intOf kv).toNat)
      case atStart => exact ⟨0, 0, L, rfl, rfl, Nat.zero_le _, by omega, hL, hoL, hbL, HR.out.enter⟩
      case round =>
        obtain ⟨k, cr, L, rfl, rfl, hk, hcr, hL, hoL, hbL, HR⟩ := hrel
        have hqL := hq.past hbL
        have hsL := hoL.solid
        rw [hL.out] at hsL
        by_cases hkt : k < ys.length
        · have hc2 := hqL.cells k hkt
          have hc3 := hoL.rd.cells (i + k) (by rw [hL.out]; omega)
          have hxd := getD_lt (B := 4294967296) (by omega) xs HXL.out i
          have hyd := getD_lt (B := 4294967296) (by omega) ys HYL.out k
          have hLd := getD_lt (B := 4294967296) (by omega) L HR.out.1 (i + k)
          obtain ⟨hpr, hpr0⟩ := prod_le hxd hyd
          have HS := Lib.hid (HR.out.step (t := dg xs i * dg ys k + dg L (i + k) + cr) (by unfold B32; omega) hkt (by rw [hL.out]; omega) rfl)
          have HC := Lib.hid (mulCarry HR.out hcr hxd hyd)
          go_wp2_with (refine wpl_store rfl _ _ _ rfl 26 tyNat _ _ _ _ hoL (i + k) (by rw [hL.out]; omega) _ ?_ rfl rfl ?_; omega; intro w3 ho3 hg3 hb3)
          have e3 : (((dg xs i : Int) * dg ys k + dg L (i + k) + cr) % 4294967296).toNat = (dg xs i * dg ys k + dg L (i + k) + cr) % B32 := by unfold B32; omega
          rw [e3] at ho3
          go_roundw
          case rel => exact ⟨k + 1, (dg xs i * dg ys k + dg L (i + k) + cr) / B32, _, by go_num, by unfold B32; go_num, hkt, HC.out, (by rw [List.length_set]; exact hL.out), ho3, hbL.trans hb3, HS⟩
          case measure => simp [intOf]; omega
        · obtain rfl : k = ys.length := by omega
          have hj : i + ys.length < L.length := by rw [hL.out]; omega
          have HS := Lib.hid (HR.out.leave rfl hj (by unfold B32; omega))
          go_wp2_with (refine wpl_store rfl _ _ _ rfl 26 tyNat _ _ _ _ hoL (i + ys.length) hj _ ?_ rfl rfl ?_; omega; intro w3 ho3 hg3 hb3)
          have e3 : ((cr : Int) % 4294967296).toNat = cr := by omega
          first | rw [e3] at ho3 | skip
          go_roundw
          case rel => exact ⟨i + 1, _, by go_num, hlt, (by rw [List.length_set]; exact hL.out), ho3, hbL.trans hb3, HS⟩
          case measure => simp [intOf]; omega
    · obtain rfl : i = xs.length := by omega
      go_wp2_with (go_at_call 41; refine (norm_any _ _ _ L _ hoL.rd hL.out.symm hoL.le_cap HR.out.1 (by rw [hL.out]; omega)).mono ?_; rintro e w3 ⟨rfl, rfl⟩)
      go_ret
      rw [← HR.out.done (Nat.le_refl _) HA.out HB.out]
      have ht := take_dig_len B32_two L HR.out.1
      have ho := hoL.take (dig B32 (val B32 L)).length
      rw [ht] at ho
      exact gives_of rfl rfl ho hbL

theorem mul_any (p q : Option Addr) (n m c d : Nat) (a b : Nat) (w : World) (hp : Rd w .u32 p (dig B32 a)) (hq : Rd w .u32 q (dig B32 b)) (hn : n = (dig B32 a).length) (hm : m = (dig B32 b).length)
    (hl : (dig B32 a).length + (dig B32 b).length ≤ 1000000000) :
    Calls Try.prog 25 #[.slice p n c, .slice q m d] w (Gives w .u32 26 (dig B32 (a * b))) := by
  by_cases h1 : 0 < (dig B32 a).length
  · by_cases h2 : 0 < (dig B32 b).length
    · exact mul_pos p q n m c d a b w _ _ rfl rfl hp hq hn hm h1 h2 hl
    · have h0 : b = 0 := (dig_len_zero B32_two b).1 (by omega)
      rw [show dig B32 (a * b) = [] by rw [h0, Nat.mul_zero, dig_zero]]
      exact mul_nil w (.inr (by omega))
  · have h0 : a = 0 := (dig_len_zero B32_two a).1 (by omega)
    rw [show dig B32 (a * b) = [] by rw [h0, Nat.zero_mul, dig_zero]]
    exact mul_nil w (.inl (by omega))

end Go.Proofs.Ytlegnbigddhmlaa

namespace Go.Proofs.Ytlegnbigddhmlaa
open Go.RowKit Go.Slip

set_option maxHeartbeats 1000000 in
set_option maxRecDepth 100000 in
theorem small_any (p : Option Addr) (n c : Nat) (a d : Nat) (w : World) (hp : Rd w .u32 p (dig B32 a)) (hn : n = (dig B32 a).length) (hl : (dig B32 a).length ≤ 1000000000) (hd0 : 0 < d) (hd1 : d < 4294967296) :
    Calls Try.prog 43 #[.slice p n c, .int .u32 d] w fun e w' => ∃ p' c', e = .returned (.tuple #[.slice p' (dig B32 (a / d)).length c', .int .u32 (a % d : Nat)]) ∧
      Own w' w.heap.size .u32 26 p' c' (dig B32 (a / d)) ∧ Below w.heap.size w w' := by
  subst hn
  have HA := Lib.hid (val_dig B32_two a)
  have HXL := Lib.hid (dig_lt B32_two a)
  generalize dig B32 a = xs at hp hl HA HXL ⊢
  have hsx := hp.solid
  go_enter Try.func43, Try.ntmps43
  go_wp2_with (refine wpl_make rfl _ _ _ rfl tyNat .i64 .i64 xs.length _ _ rfl rfl ?_ ?_ ?_ ?_; omega; omega; omega; intro p1 c1 w1 ho1 hb1 hz1)
  go_loopw [7, 8] (fun rv iv wr => ∃ (k r : Nat) (L : List Nat), iv = .int .i64 ((k : Int) - 1) ∧ rv = .int .u64 r ∧ k ≤ xs.length ∧ r < d ∧ Hid (L.length = xs.length) ∧ Own wr w.heap.size .u32 26 p1 c1 L ∧ Below w.heap.size w wr ∧ Hid (SmallRel B32 L xs d k r))
    (fun _ iv _ => (intOf iv + 1).toNat)
  case atStart => exact ⟨xs.length, 0, _, rfl, rfl, Nat.le_refl _, hd0, List.length_replicate, ho1, hb1, (show SmallRel B32 _ xs d xs.length 0 from ⟨fun x hx => by rw [(List.mem_replicate.1 hx).2]; exact B32_pos, hd0, by simp⟩)⟩
  case round =>
    obtain ⟨k, r, L, rfl, rfl, hk, hrd, hL, hoL, hbL, HR⟩ := hrel
    have hpL := hp.past hbL
    have hsL := hoL.solid
    rw [hL.out] at hsL
    by_cases h0 : 0 < k
    · obtain ⟨k, rfl⟩ : ∃ j, k = j + 1 := ⟨k - 1, by omega⟩
      have hc1 := hpL.cells k (by omega)
      have hxd := getD_lt (B := 4294967296) (by omega) xs HXL.out k
      have hor := or32 r (dg xs k) (by omega) hxd
      obtain ⟨HS, HQ⟩ := HR.out.step (by omega) (by rw [hL.out]; omega) (by unfold B32; exact hxd)
      have HS := Lib.hid HS
      have ej : ((k + 1 : Nat) : Int) - 1 = k := by omega
      rw [ej]
      unfold B32 at HQ
      obtain ⟨t, ht⟩ : ∃ t, t = r * 4294967296 + dg xs k := ⟨_, rfl⟩
      have et : (r : Int) * 4294967296 + (dg xs k : Nat) = (t : Nat) := by omega
      have htb : t < 18446744073709551616 := by omega
      rw [et] at hor
      rw [← ht] at HQ
      have HT := Lib.hid ht
      have hq0 : (0 : Int) ≤ (t : Int) / (d : Int) := Int.ediv_nonneg (by omega) (by omega)
      have hq1 : (t : Int) / (d : Int) < 4294967296 := by have : ((t / d : Nat) : Int) = (t : Int) / (d : Int) := rfl; omega
      have hd2 : (1 : Int) ≤ (d : Int) := by omega
      have k0 : (0 : Int) ≤ (k : Int) := by omega
      have k1 : (k : Int) < (xs.length : Int) := by omega
      clear ht et hc1
      have hc1 := hpL.cells k (by omega)
      go_wp2_with fail
      clear hc1 hor ej
      have e1 : IntKind.u64.wrap (d : Int) = (d : Int) := IntWalk.u64_in _ (by omega)
      have e2 : ¬ d = 0 := by omega
      have e3 : IntKind.u64.wrap ((t : Int) / (d : Int)) = (t : Int) / (d : Int) := IntWalk.u64_in _ (by omega)
      have e4 : IntKind.u32.wrap ((t : Int) / (d : Int)) = (t : Int) / (d : Int) := IntWalk.u32_in _ (by omega)
      have e5 : (t : Int).tmod (d : Int) = (t : Int) % (d : Int) := Int.tmod_eq_emod_of_nonneg (by omega)
      have hcL := hoL.rd.cells k (by rw [hL.out]; omega)
      have hfL := frozen_own hoL k (by rw [hL.out]; omega)
      go_region
      obtain ⟨ho3, hg3, hb3⟩ := stored_own hoL k (by rw [hL.out]; omega) (t / d)
      clear e1 e2 e3 e4 e5 hcL hfL
      have hb3 := hbL.trans (below_of_grown hg3 hbL.size (fun j hj => by cases hj; exact hb3))
      have ho3 := ho3.drew
      have hb3 := hb3.drew
      have eq : ((t / d : Nat) : Int) = (t : Int) / (d : Int) := rfl
      rw [eq] at ho3 hb3 hg3
      generalize (wr.setCell (at_ p1 k) (.int .u32 ((t : Int) / (d : Int)))).drew = w3 at ho3 hb3 ⊢
      clear eq hg3
      go_wp2
      go_roundw
      case rel =>
        have e6 : r * B32 + dg xs k = t := by rw [HT.out]; rfl
        rw [e6] at HS
        exact ⟨k, t % d, _, rfl, rfl, by omega, Nat.mod_lt _ hd0, (by show (List.set _ _ _).length = _; rw [List.length_set]; exact hL.out), ho3, hb3, HS⟩
      case measure => first | (simp [intOf]; done) | (simp [intOf]; omega)
    · obtain rfl : k = 0 := by omega
      obtain ⟨hv, hm⟩ := HR.out.done HA.out
      have HM := Lib.hid hm
      have HV := Lib.hid hv
      clear hv hm
      go_wp2_with (go_at_call 41; refine (norm_any _ _ _ L _ hoL.rd hL.out.symm hoL.le_cap HR.out.1 (by rw [hL.out]; omega)).mono ?_; rintro e w3 ⟨rfl, rfl⟩)
      go_ret2
      have ht := take_dig_len B32_two L HR.out.1
      have ho2 := hoL.take (dig B32 (val B32 L)).length
      rw [ht, HV.out] at ho2
      refine ⟨p1, c1, ?_, ho2, hbL⟩
      rw [HV.out, ← HM.out]
      rfl

end Go.Proofs.Ytlegnbigddhmlaa

namespace Go.Proofs.Ytlegnbigddhmlaa
open Go.RowKit Go.Slip

theorem shl_or_lt (x cr s : Nat) (hx : x < 4294967296) (hs : s < 32) (hc : cr < 2 ^ s) : x * 2 ^ s + cr < 18446744073709551616 := by
  have h1 : 2 ^ s ≤ 2 ^ 31 := Nat.pow_le_pow_right (by omega) (by omega)
  have h2 := Nat.mul_le_mul_right (2 ^ s) (show x + 1 ≤ 4294967296 from hx)
  rw [Nat.add_mul, Nat.one_mul] at h2
  omega

/-- A digit to the left, and what was carried put behind it. -/
theorem shl_or (x cr s : Nat) (hx : x < 4294967296) (hs : s < 32) (hc : cr < 2 ^ s) :
    bits .or .u64 (IntKind.u64.wrap ((x : Int) * 2 ^ s)) (cr : Int) = ((x * 2 ^ s + cr : Nat) : Int) := by
  have hlt := shl_or_lt x cr s hx hs hc
  have e : (x : Int) * 2 ^ s = ((x * 2 ^ s : Nat) : Int) := by simp
  rw [e, IntWalk.u64_in _ (by omega), u64_or_nat _ _ (by omega) (by omega), nat_join s _ _ (Nat.mul_mod_left _ _) hc]

set_option maxHeartbeats 1000000 in
set_option maxRecDepth 100000 in
theorem shl_any (p : Option Addr) (n c : Nat) (a N : Nat) (w : World) (hp : Rd w .u32 p (dig B32 a)) (hn : n = (dig B32 a).length) (hl : (dig B32 a).length ≤ 1000000000) (hN : N ≤ 1000000000) :
    Calls Try.prog 30 #[.slice p n c, .int .i64 N] w (Gives w .u32 26 (dig B32 (a * 2 ^ N))) := by
  subst hn
  by_cases h0 : (dig B32 a).length = 0
  · have : a = 0 := (dig_len_zero B32_two a).1 h0
    subst this
    rw [Nat.zero_mul]
    rw [dig_zero] at *
    go_enter Try.func30, Try.ntmps30
    go_wp2
    go_ret
    exact ⟨none, 0, rfl, Own.nil _ _ _ _, Below.refl _ _⟩
  · have HXL := Lib.hid (dig_lt B32_two a)
    have HA := Lib.hid (val_dig B32_two a)
    generalize dig B32 a = xs at *
    have hsx := hp.solid
    have hlen : 1 ≤ xs.length := by omega
    clear h0
    have hs : N % 32 < 32 := Nat.mod_lt _ (by omega)
    have H0 := Lib.hid (ShlRel.start (k := N / 32) (p := 2 ^ (N % 32)) B32_pos (Nat.pow_pos (by omega)) xs)
    go_enter Try.func30, Try.ntmps30
    go_wp2_with (refine wpl_make2 rfl _ _ _ rfl tyNat .i64 .i64 (N / 32) (N / 32 + xs.length + 1) _ _ rfl rfl ?_ ?_ ?_ ?_ ?_; omega; omega; omega; omega; intro p1 c1 w1 ho1 hb1 hz1)
    go_loopg [5, 7, 27] (xs.length) (fun g ov cv iv wr => ∃ (i cr : Nat) (t : Option Addr) (e : Nat) (O : List Nat), iv = .int .i64 i ∧ cv = .int .u32 cr ∧ ov = .slice t O.length e ∧ g + i = xs.length ∧ cr < 4294967296 ∧ i ≤ xs.length ∧ Hid (O.length = N / 32 + i) ∧
      Own wr w.heap.size .u32 26 t e O ∧ Below w.heap.size w wr ∧ Hid (ShlRel B32 (N / 32) (2 ^ (N % 32)) O xs i cr))
    case atStart => exact ⟨0, 0, p1, c1, _, rfl, rfl, by simp, by omega, by omega, by omega, List.length_replicate, ho1, hb1, H0⟩
    case round =>
      obtain ⟨i, cr, t, e, O, rfl, rfl, rfl, hg, hcr, hi, hO, hoq, hb, HR⟩ := hrel
      have hpL := hp.past hb
      have hxd := getD_lt (B := 4294967296) (by omega) xs HXL.out i
      by_cases h1 : i < xs.length
      · have hc1 := hpL.cells i h1
        obtain ⟨t, ht⟩ : ∃ t, t = dg xs i * 2 ^ (N % 32) + cr := ⟨_, rfl⟩
        have HS := Lib.hid (HR.out.step (by unfold B32; exact hxd) t ht)
        have hor := shl_or (dg xs i) cr (N % 32) hxd hs HR.out.2.2.1
        have htb := shl_or_lt (dg xs i) cr (N % 32) hxd hs HR.out.2.2.1
        rw [← ht] at hor htb
        have hq : t / 4294967296 < 4294967296 := by omega
        clear ht hs H0
        go_wp2_with (first
          | (refine wpl_build1 rfl _ _ rfl tyNat _ ?_ rfl ?_; omega; intro p2 w2 ho2 hb2 hz2 hp2)
          | (at_builtin; refine wpl_append rfl _ _ _ rfl tyNat _ _ _ _ _ (hoq.past hb2) rfl _ _ _ _ ho2.rd rfl rfl rfl ?_ ?_ ?_; (have := hO.out; simp; omega); (have := hb2.size; have := hb.size; omega); intro p3 c3 w3 ho3 hg3 hb3 hn3))
        have hb4 := hb.trans ((hb2.mono hb.size).trans hb3)
        have e4 : ((t : Int) % 4294967296).toNat = t % B32 := by unfold B32; omega
        rw [e4] at ho3
        go_roundg (xs.length - 1 - i)
        case measure => omega
        case rel => exact ⟨i + 1, t / B32, p3, c3, _, by go_num, (by unfold B32; go_num), by simp, by omega, (by unfold B32; exact hq), by omega, (by show (O ++ _).length = _; have := hO.out; rw [List.length_append, List.length_singleton]; omega), ho3, hb4, HS⟩
      · obtain rfl : i = xs.length := by omega
        obtain ⟨hd1, hd2⟩ := HR.out.done (by have := Nat.pow_le_pow_right (show 0 < 2 by omega) (Nat.le_of_lt hs); exact this) HA.out
        rw [shl_split (B := B32) (w := 32) (by decide) N] at hd2
        have HD := Lib.hid hd1
        have HV := Lib.hid hd2
        clear hd1 hd2 hs H0
        go_wp2_with (first
          | (refine wpl_build1 rfl _ _ rfl tyNat _ ?_ rfl ?_; omega; intro p2 w2 ho2 hb2 hz2 hp2)
          | (at_builtin; refine wpl_append rfl _ _ _ rfl tyNat _ _ _ _ _ (hoq.past hb2) rfl _ _ _ _ ho2.rd rfl rfl rfl ?_ ?_ ?_; (have := hO.out; simp; omega); (have := hb2.size; have := hb.size; omega); intro p3 c3 w3 ho3 hg3 hb3 hn3)
          | (go_at_call 41; rw [Int.toNat_natCast] at ho3; refine (norm_any _ _ _ (O ++ [cr]) _ ho3.rd (by simp) ho3.le_cap HD.out (by have := hO.out; rw [List.length_append, List.length_singleton]; omega)).mono ?_; rintro e w4 ⟨rfl, rfl⟩))
        go_ret
        have ht := take_dig_len B32_two _ HD.out
        have ho4 := ho3.take (dig B32 (val B32 (O ++ [cr]))).length
        rw [ht, HV.out] at ho4
        rw [HV.out]
        exact ⟨p3, _, rfl, ho4, hb.trans ((hb2.mono hb.size).trans hb3)⟩


theorem shr_or (x y s : Nat) (hx : x < 4294967296) (hs : s < 32) (h0 : 0 < s) :
    bits .or .u32 ((x / 2 ^ s : Nat) : Int) ((y : Int) * 2 ^ (32 - s) % 4294967296) = ((x / 2 ^ s + y % 2 ^ s * (4294967296 / 2 ^ s) : Nat) : Int) := by
  have e0 : 4294967296 = 2 ^ s * 2 ^ (32 - s) := by rw [← Nat.pow_add, show s + (32 - s) = 32 by omega]
  have e1 : 4294967296 / 2 ^ s = 2 ^ (32 - s) := by rw [e0, Nat.mul_div_cancel_left _ (Nat.pow_pos (by omega))]
  have e2 : (y : Int) * 2 ^ (32 - s) % 4294967296 = ((y % 2 ^ s * 2 ^ (32 - s) : Nat) : Int) := by
    have : y * 2 ^ (32 - s) % 4294967296 = y % 2 ^ s * 2 ^ (32 - s) := by rw [e0, Nat.mul_mod_mul_right]
    rw [← this]; simp
  have hp : 0 < 2 ^ s := Nat.pow_pos (by omega)
  have h1 : x / 2 ^ s < 2 ^ (32 - s) := by rw [Nat.div_lt_iff_lt_mul hp, Nat.mul_comm, ← e0]; exact hx
  have h2 : y % 2 ^ s * 2 ^ (32 - s) < 4294967296 := by
    rw [e0]; exact Nat.mul_lt_mul_of_pos_right (Nat.mod_lt _ hp) (Nat.pow_pos (by omega))
  have h3 : x / 2 ^ s < 4294967296 := Nat.lt_of_le_of_lt (Nat.div_le_self _ _) hx
  rw [e1, e2, u32_or_nat _ _ h3 h2, Nat.or_comm, nat_join (32 - s) _ _ (Nat.mul_mod_left _ _) h1, Nat.add_comm]

theorem shr_done {L Y : List Nat} {N a : Nat} (h : ShrRel B32 (2 ^ (N % 32)) L Y Y.length) (hY : val B32 Y = a / B32 ^ (N / 32)) : val B32 L = a / 2 ^ N := by
  rw [h.done, hY, shift_split (B := B32) (w := 32) (by decide)]

set_option maxHeartbeats 1000000 in
set_option maxRecDepth 100000 in
theorem shr_any (p : Option Addr) (n c : Nat) (a N : Nat) (w : World) (hp : Rd w .u32 p (dig B32 a)) (hn : n = (dig B32 a).length) (hc : (dig B32 a).length ≤ c) (hl : (dig B32 a).length ≤ 1000000000) (hN : N ≤ 1000000000) :
    Calls Try.prog 28 #[.slice p n c, .int .i64 N] w (Gives w .u32 26 (dig B32 (a / 2 ^ N))) := by
  subst hn
  by_cases h0 : (dig B32 a).length ≤ N / 32
  · rw [div_of_big (w := 32) (by decide) B32_two a N h0]
    rw [dig_zero]
    go_enter Try.func28, Try.ntmps28
    go_wp2
    go_ret
    exact ⟨none, 0, rfl, Own.nil _ _ _ _, Below.refl _ _⟩
  · have HXL := Lib.hid (dig_lt B32_two a)
    have HV := Lib.hid (val_drop_div (B := B32) B32_pos _ (dig_lt B32_two a) (N / 32))
    rw [val_dig B32_two] at HV
    generalize dig B32 a = xs at *
    have hsx := hp.solid
    have hk : N / 32 < xs.length := by omega
    have hq := hp.drop (N / 32)
    have HY := Lib.hid (show ∀ x ∈ xs.drop (N / 32), x < B32 from fun x h => HXL.out x (List.mem_of_mem_drop h))
    have hyl : (xs.drop (N / 32)).length = xs.length - N / 32 := List.length_drop
    have hylp : 0 < (xs.drop (N / 32)).length := by omega
    have hyl1 : (xs.drop (N / 32)).length ≤ 1000000000 := by omega
    have eN : ((N : Int) / 32).toNat = N / 32 := by omega
    clear h0
    have hs : N % 32 < 32 := Nat.mod_lt _ (by omega)
    generalize hY : xs.drop (N / 32) = ys at *
    clear hY
    have HL := Lib.hid hyl
    clear hyl
    have hpm : B32 % 2 ^ (N % 32) = 0 := pow_mod_zero (w := 32) (by omega)
    have hpm := Lib.hid hpm
    have H0 := Lib.hid (ShrRel.start (p := 2 ^ (N % 32)) HY.out)
    go_enter Try.func28, Try.ntmps28
    go_wp2_with (go_at_call 39; refine (clone_any _ _ _ ys _ hq HL.out.symm hyl1).mono ?_; rintro e w1 ⟨p1, c1, rfl, ho1, hb1⟩)
    go_loopw [22] (fun iv wr => ∃ (i : Nat) (L : List Nat), iv = .int .i64 i ∧ i ≤ ys.length ∧ L.length = ys.length ∧ Own wr w.heap.size .u32 26 p1 c1 L ∧ Below w.heap.size w wr ∧ Hid (ShrRel B32 (2 ^ (N % 32)) L ys i))
      (fun iv _ => ys.length - (intOf iv).toNat)
    case atStart => exact ⟨0, ys, rfl, Nat.zero_le _, rfl, ho1, hb1, H0⟩
    case round =>
      obtain ⟨i, L, rfl, hi, hL, hoL, hb, HR⟩ := hrel
      by_cases hlt : i < ys.length
      · have hc1 := hoL.rd.cells i (by omega)
        have hsL := hoL.solid
        rw [hL] at hsL
        rw [HR.out.2.2.1 i (Nat.le_refl _)] at hc1
        have hyd := getD_lt (B := 4294967296) (by omega) ys HY.out i
        have hyd2 := getD_lt (B := 4294967296) (by omega) ys HY.out (i + 1)
        obtain ⟨v, hv⟩ : ∃ v, v = dg ys i / 2 ^ (N % 32) := ⟨_, rfl⟩
        have ev : ((dg ys i : Nat) : Int) / 2 ^ (N % 32) = (v : Nat) := by rw [hv]; simp
        have hvd : v < 4294967296 := by rw [hv]; exact Nat.lt_of_le_of_lt (Nat.div_le_self _ _) hyd
        by_cases h2 : i + 1 < ys.length ∧ 0 < N % 32
        · obtain ⟨h2, h3⟩ := h2
          obtain ⟨u, hu⟩ : ∃ u, u = dg ys i / 2 ^ (N % 32) + dg ys (i + 1) % 2 ^ (N % 32) * (B32 / 2 ^ (N % 32)) := ⟨_, rfl⟩
          have HS := Lib.hid (HR.out.step (Nat.pow_pos (by omega)) hpm.out HY.out hlt u hu)
          have hor := shr_or (dg ys i) (dg ys (i + 1)) (N % 32) hyd hs h3
          rw [show B32 = 4294967296 from rfl] at hu
          rw [← hu, ← hv] at hor
          have huB : u < 4294967296 := by rw [hu]; exact shr_lt (Nat.pow_pos (by omega)) hpm.out hyd
          clear hu hv
          go_wp2_with (refine wpl_store rfl _ _ _ rfl 26 tyNat _ _ _ _ hoL i (by omega) _ ?_ rfl rfl ?_; omega; intro w3 ho3 hg3 hb3)
          rw [ev, Int.toNat_natCast] at ho3
          have hlv : (L.set i v).length = ys.length := by simp [hL]
          have hcA := ho3.rd.cells i (by omega)
          have hcB := ho3.rd.cells (i + 1) (by omega)
          rw [dg_set_same (by omega)] at hcA
          rw [dg_set_ne (by omega), HR.out.2.2.1 (i + 1) (by omega)] at hcB
          have hfr := frozen_own ho3 i (by omega)
          go_region
          obtain ⟨ho4, hg4, hb4⟩ := stored_own ho3 i (by omega) u
          rw [List.set_set] at ho4
          have hs3 := hb.trans hb3
          have hb5 := hs3.trans (below_of_grown hg4 hs3.size (fun j hj => by cases hj; exact hb4))
          have ho4 := ho4.drew
          have hb5 := hb5.drew
          clear hcA hcB hfr hor hg4 hb4
          generalize (w3.setCell (at_ p1 i) (.int .u32 (u : Int))).drew = w4 at ho4 hb5 ⊢
          go_wp2
          go_roundw
          case rel => exact ⟨i + 1, _, by go_num, by omega, by simp [hL], ho4, hb5, HS⟩
          case measure => simp [intOf]; omega
        · have HS := Lib.hid (HR.out.step (Nat.pow_pos (by omega)) hpm.out HY.out hlt v (by
            rw [hv]
            by_cases h3 : N % 32 = 0
            · rw [h3, Nat.pow_zero, Nat.mod_one, Nat.zero_mul]; rfl
            · rw [dg_of_ge (show ys.length ≤ i + 1 by omega), Nat.zero_mod, Nat.zero_mul]; rfl))
          clear hv
          by_cases h3 : i + 1 < ys.length
          · have h4 : N % 32 ≤ 0 := by omega
            clear h2
            go_wp2_with (refine wpl_store rfl _ _ _ rfl 26 tyNat _ _ _ _ hoL i (by omega) _ ?_ rfl rfl ?_; omega; intro w3 ho3 hg3 hb3)
            rw [ev, Int.toNat_natCast] at ho3
            go_roundw
            case rel => exact ⟨i + 1, _, by go_num, by omega, by simp [hL], ho3, hb.trans hb3, HS⟩
            case measure => simp [intOf]; omega
          · clear h2
            go_wp2_with (refine wpl_store rfl _ _ _ rfl 26 tyNat _ _ _ _ hoL i (by omega) _ ?_ rfl rfl ?_; omega; intro w3 ho3 hg3 hb3)
            rw [ev, Int.toNat_natCast] at ho3
            go_roundw
            case rel => exact ⟨i + 1, _, by go_num, by omega, by simp [hL], ho3, hb.trans hb3, HS⟩
            case measure => simp [intOf]; omega
      · obtain rfl : i = ys.length := by omega
        have HD := Lib.hid (shr_done HR.out HV.out)
        have HX := Lib.hid HR.out.1
        go_wp2_with (go_at_call 41; refine (norm_any _ _ _ L _ hoL.rd hL.symm hoL.le_cap HX.out (by omega)).mono ?_; rintro e w3 ⟨rfl, rfl⟩)
        go_ret
        have ht := take_dig_len B32_two L HX.out
        have ho2 := hoL.take (dig B32 (val B32 L)).length
        rw [ht, HD.out] at ho2
        rw [HD.out]
        exact ⟨p1, c1, rfl, ho2, hb⟩

end Go.Proofs.Ytlegnbigddhmlaa
