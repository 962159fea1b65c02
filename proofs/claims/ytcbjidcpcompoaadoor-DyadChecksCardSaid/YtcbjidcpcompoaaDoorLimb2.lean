/- limb.Add: it adds. -/
import Derived.Test.YtcbjidcpcompoaaDoorLimb1
namespace Go.Proofs.YtcbjidcpcompoaaDoor
open Go.RowKit Go.Slip

/-- What the round knows: digits, and what they stand for with what is carried. -/
def AddRel (L ys : List Nat) (i cr : Nat) (a : Nat) : Prop := (∀ x ∈ L, x < B32) ∧ val B32 L + cr * B32 ^ i = a + val B32 (ys.take i)

theorem AddRel.step {L ys : List Nat} {i cr a : Nat} (h : AddRel L ys i cr a) (hi : i < L.length) :
    AddRel (L.set i ((dg L i + dg ys i + cr) % B32)) ys (i + 1) ((dg L i + dg ys i + cr) / B32) a := by
  refine ⟨set_lt L h.1 i _ (Nat.mod_lt _ (by unfold B32; omega)), ?_⟩
  rw [add_step B32 L i _ cr _ hi h.2, val_take_succ]; omega

theorem AddRel.carry {L ys : List Nat} {i cr a : Nat} (h : AddRel L ys i cr a) (hy : ∀ x ∈ ys, x < B32) (hc : cr ≤ 1) : (dg L i + dg ys i + cr) / B32 ≤ 1 := by
  have h1 := getD_lt (B := B32) (by unfold B32; omega) L h.1 i
  have h2 := getD_lt (B := B32) (by unfold B32; omega) ys hy i
  unfold B32 at *; omega

theorem AddRel.done0 {L ys : List Nat} {i a b : Nat} (h : AddRel L ys i 0 a) (hi : ys.length ≤ i) (hy : val B32 ys = b) (hl : L.length = (dig B32 a).length) : L = dig B32 (a + b) := by
  refine add_end0 B32_two L a b h.1 hl ?_
  have := h.2
  rw [val_take_all _ _ _ hi, hy] at this
  omega

theorem AddRel.done1 {L ys : List Nat} {n cr a b : Nat} (h : AddRel L ys n cr a) (hn : L.length = n) (hi : ys.length ≤ n) (hy : val B32 ys = b) (h0 : 0 < cr) (hc : cr ≤ 1) : L ++ [cr] = dig B32 (a + b) := by
  subst hn
  refine add_end1 B32_two L cr _ h.1 h0 (by unfold B32; omega) ?_
  have := h.2
  rw [val_take_all _ _ _ hi, hy] at this
  exact this

theorem AddRel.start (a : Nat) (ys : List Nat) : AddRel (dig B32 a) ys 0 0 a := ⟨dig_lt B32_two a, by simp [val_dig B32_two]⟩

theorem gives_of {w w' : World} {k : IntKind} {e : TypeId} {xs ys : List Nat} {p : Option Addr} {n c : Nat} (h : xs = ys) (hn : n = xs.length) (ho : Own w' w.heap.size k e p c xs) (hb : Below w.heap.size w w') : Gives w k e ys (.returned (.slice p n c)) w' := by
  subst h hn; exact ⟨p, c, rfl, ho, hb⟩

set_option maxHeartbeats 1000000 in
theorem add_ge (p q : Option Addr) (n m c d : Nat) (a b : Nat) (w : World) (hp : Rd w .u32 p (dig B32 a)) (hq : Rd w .u32 q (dig B32 b)) (hn : n = (dig B32 a).length) (hm : m = (dig B32 b).length)
    (hl : (dig B32 a).length ≤ 1000000000) (hge : (dig B32 b).length ≤ (dig B32 a).length) :
    Calls Tryd.prog 64 #[.slice p n c, .slice q m d] w (Gives w .u32 66 (dig B32 (a + b))) := by
  subst hn hm
  have H0 := Lib.hid (AddRel.start a (dig B32 b))
  have HY := Lib.hid (dig_lt B32_two b)
  have HV := Lib.hid (val_dig B32_two b)
  obtain ⟨xs, hxs⟩ : ∃ xs, xs = dig B32 a := ⟨_, rfl⟩
  have HX : Hid (xs.length = (dig B32 a).length) := by rw [hxs]; rfl
  rw [← hxs] at hp hl hge H0 ⊢
  clear hxs
  generalize dig B32 b = ys at *
  go_enter Tryd.func64, Tryd.ntmps64
  go_wp2_with (go_at_call 70; refine (clone_any _ _ _ xs _ hp rfl hl).mono ?_; rintro e w1 ⟨p1, c1, rfl, ho1, hb1⟩)
  go_loopw [6, 20] (fun cv iv wr => ∃ (i cr : Nat) (L : List Nat), iv = .int .i64 i ∧ cv = .int .u32 cr ∧ i ≤ xs.length ∧ cr ≤ 1 ∧ L.length = xs.length ∧ Own wr w.heap.size .u32 66 p1 c1 L ∧ Below w.heap.size w wr ∧ Hid (AddRel L ys i cr a))
    (fun _ iv _ => xs.length - (intOf iv).toNat)
  case atStart => exact ⟨0, 0, xs, rfl, rfl, Nat.zero_le _, by omega, rfl, ho1, hb1, H0⟩
  case round =>
    obtain ⟨i, cr, L, rfl, rfl, hi, hcr, hL, hoL, hbL, HR⟩ := hrel
    have hqL := hq.past hbL
    have HLX : Hid (L.length = (dig B32 a).length) := hL.trans HX.out
    by_cases hlt : i < xs.length
    · have hc1 := hoL.rd.cells i (by omega)
      have hsL := hoL.solid
      rw [hL] at hsL
      have hLd := getD_lt (B := 4294967296) (by omega) L HR.out.1 i
      have hyd := getD_lt (B := 4294967296) (by omega) ys HY.out i
      have HS := HR.out.step (i := i) (by omega)
      have HC := HR.out.carry HY.out hcr (i := i)
      unfold B32 at HS HC
      by_cases hd : i < ys.length
      · have hc2 := hqL.cells i hd
        have hsq := hqL.solid
        have HS' := Lib.hid HS
        have HC' := Lib.hid HC
        clear HS HC
        go_wp2_with (first
          | (go_at_call 77; refine (add32_any _ _ cr _ hLd hyd hcr).mono ?_; rintro e w2 ⟨rfl, rfl⟩)
          | (refine wpl_store rfl _ _ _ rfl 66 tyNat _ _ _ _ hoL i (by omega) _ ?_ rfl rfl ?_; omega; intro w3 ho3 hg3 hb3))
        have e3 : (((dg L i : Int) + dg ys i + cr) % 4294967296).toNat = (dg L i + dg ys i + cr) % 4294967296 := by omega
        rw [e3] at ho3
        go_roundw
        case rel => exact ⟨i + 1, (dg L i + dg ys i + cr) / 4294967296, _, by go_num, by go_num, hlt, HC'.out, by simp [hL], ho3, hbL.trans hb3, HS'⟩
        case measure => simp [intOf]; omega
      · by_cases hc0 : cr = 0
        · subst hc0
          go_wp2
          go_ret
          exact gives_of (HR.out.done0 (by omega) HV.out HLX.out) hL.symm hoL hbL
        · have hcp : 1 ≤ cr := by omega
          have ez : dg ys i = 0 := dg_of_ge (by omega)
          rw [ez] at HS HC
          have HS' := Lib.hid HS
          have HC' := Lib.hid HC
          clear HS HC ez hyd hc0
          go_wp2_with (first
            | (go_at_call 77; refine (add32_any _ 0 cr _ hLd (by omega) hcr).mono ?_; rintro e w2 ⟨rfl, rfl⟩)
            | (refine wpl_store rfl _ _ _ rfl 66 tyNat _ _ _ _ hoL i (by omega) _ ?_ rfl rfl ?_; omega; intro w3 ho3 hg3 hb3))
          have e3 : (((dg L i : Int) + cr) % 4294967296).toNat = (dg L i + 0 + cr) % 4294967296 := by omega
          rw [e3] at ho3
          go_roundw
          case rel => exact ⟨i + 1, (dg L i + 0 + cr) / 4294967296, _, by go_num, by go_num, hlt, HC'.out, by simp [hL], ho3, hbL.trans hb3, HS'⟩
          case measure => simp [intOf]; omega
    · obtain rfl : i = xs.length := by omega
      by_cases hc0 : cr = 0
      · subst hc0
        go_wp2
        go_ret
        exact gives_of (HR.out.done0 hge HV.out HLX.out) hL.symm hoL hbL
      · have hcp : 1 ≤ cr := by omega
        clear hc0
        have HD := Lib.hid (HR.out.done1 hL hge HV.out hcp hcr)
        go_wp2_with (first
          | (refine wpl_build1 rfl _ _ rfl tyNat _ ?_ rfl ?_; omega; intro p2 w2 ho2 hb2 hz2 hp2)
          | (at_builtin; refine wpl_append rfl _ _ _ rfl tyNat _ _ _ _ _ (hoL.past hb2) hL.symm _ _ _ _ ho2.rd rfl rfl rfl ?_ ?_ ?_; (simp; omega); (have := hbL.size; omega); intro p3 c3 w3 ho3 hg3 hb3 hn3))
        go_ret
        exact gives_of HD.out (by simp [hL]) ho3 ((hbL.trans (hb2.mono hbL.size)).trans hb3)

set_option maxHeartbeats 1000000 in
theorem add_lt (p q : Option Addr) (n m c d : Nat) (a b : Nat) (w : World) (hp : Rd w .u32 p (dig B32 a)) (hq : Rd w .u32 q (dig B32 b)) (hn : n = (dig B32 a).length) (hm : m = (dig B32 b).length)
    (hl : (dig B32 a).length ≤ 1000000000) (hgt : (dig B32 b).length < (dig B32 a).length) :
    Calls Tryd.prog 64 #[.slice q m d, .slice p n c] w (Gives w .u32 66 (dig B32 (a + b))) := by
  have hge := Nat.le_of_lt hgt
  subst hn hm
  have H0 := Lib.hid (AddRel.start a (dig B32 b))
  have HY := Lib.hid (dig_lt B32_two b)
  have HV := Lib.hid (val_dig B32_two b)
  obtain ⟨xs, hxs⟩ : ∃ xs, xs = dig B32 a := ⟨_, rfl⟩
  have HX : Hid (xs.length = (dig B32 a).length) := by rw [hxs]; rfl
  rw [← hxs] at hp hl hgt hge H0 ⊢
  clear hxs
  generalize dig B32 b = ys at *
  go_enter Tryd.func64, Tryd.ntmps64
  go_wp2_with (go_at_call 70; refine (clone_any _ _ _ xs _ hp rfl hl).mono ?_; rintro e w1 ⟨p1, c1, rfl, ho1, hb1⟩)
  go_loopw [6, 20] (fun cv iv wr => ∃ (i cr : Nat) (L : List Nat), iv = .int .i64 i ∧ cv = .int .u32 cr ∧ i ≤ xs.length ∧ cr ≤ 1 ∧ L.length = xs.length ∧ Own wr w.heap.size .u32 66 p1 c1 L ∧ Below w.heap.size w wr ∧ Hid (AddRel L ys i cr a))
    (fun _ iv _ => xs.length - (intOf iv).toNat)
  case atStart => exact ⟨0, 0, xs, rfl, rfl, Nat.zero_le _, by omega, rfl, ho1, hb1, H0⟩
  case round =>
    obtain ⟨i, cr, L, rfl, rfl, hi, hcr, hL, hoL, hbL, HR⟩ := hrel
    have hqL := hq.past hbL
    have HLX : Hid (L.length = (dig B32 a).length) := hL.trans HX.out
    by_cases hlt : i < xs.length
    · have hc1 := hoL.rd.cells i (by omega)
      have hsL := hoL.solid
      rw [hL] at hsL
      have hLd := getD_lt (B := 4294967296) (by omega) L HR.out.1 i
      have hyd := getD_lt (B := 4294967296) (by omega) ys HY.out i
      have HS := HR.out.step (i := i) (by omega)
      have HC := HR.out.carry HY.out hcr (i := i)
      unfold B32 at HS HC
      by_cases hd : i < ys.length
      · have hc2 := hqL.cells i hd
        have hsq := hqL.solid
        have HS' := Lib.hid HS
        have HC' := Lib.hid HC
        clear HS HC
        go_wp2_with (first
          | (go_at_call 77; refine (add32_any _ _ cr _ hLd hyd hcr).mono ?_; rintro e w2 ⟨rfl, rfl⟩)
          | (refine wpl_store rfl _ _ _ rfl 66 tyNat _ _ _ _ hoL i (by omega) _ ?_ rfl rfl ?_; omega; intro w3 ho3 hg3 hb3))
        have e3 : (((dg L i : Int) + dg ys i + cr) % 4294967296).toNat = (dg L i + dg ys i + cr) % 4294967296 := by omega
        rw [e3] at ho3
        go_roundw
        case rel => exact ⟨i + 1, (dg L i + dg ys i + cr) / 4294967296, _, by go_num, by go_num, hlt, HC'.out, by simp [hL], ho3, hbL.trans hb3, HS'⟩
        case measure => simp [intOf]; omega
      · by_cases hc0 : cr = 0
        · subst hc0
          go_wp2
          go_ret
          exact gives_of (HR.out.done0 (by omega) HV.out HLX.out) hL.symm hoL hbL
        · have hcp : 1 ≤ cr := by omega
          have ez : dg ys i = 0 := dg_of_ge (by omega)
          rw [ez] at HS HC
          have HS' := Lib.hid HS
          have HC' := Lib.hid HC
          clear HS HC ez hyd hc0
          go_wp2_with (first
            | (go_at_call 77; refine (add32_any _ 0 cr _ hLd (by omega) hcr).mono ?_; rintro e w2 ⟨rfl, rfl⟩)
            | (refine wpl_store rfl _ _ _ rfl 66 tyNat _ _ _ _ hoL i (by omega) _ ?_ rfl rfl ?_; omega; intro w3 ho3 hg3 hb3))
          have e3 : (((dg L i : Int) + cr) % 4294967296).toNat = (dg L i + 0 + cr) % 4294967296 := by omega
          rw [e3] at ho3
          go_roundw
          case rel => exact ⟨i + 1, (dg L i + 0 + cr) / 4294967296, _, by go_num, by go_num, hlt, HC'.out, by simp [hL], ho3, hbL.trans hb3, HS'⟩
          case measure => simp [intOf]; omega
    · obtain rfl : i = xs.length := by omega
      by_cases hc0 : cr = 0
      · subst hc0
        go_wp2
        go_ret
        exact gives_of (HR.out.done0 hge HV.out HLX.out) hL.symm hoL hbL
      · have hcp : 1 ≤ cr := by omega
        clear hc0
        have HD := Lib.hid (HR.out.done1 hL hge HV.out hcp hcr)
        go_wp2_with (first
          | (refine wpl_build1 rfl _ _ rfl tyNat _ ?_ rfl ?_; omega; intro p2 w2 ho2 hb2 hz2 hp2)
          | (at_builtin; refine wpl_append rfl _ _ _ rfl tyNat _ _ _ _ _ (hoL.past hb2) hL.symm _ _ _ _ ho2.rd rfl rfl rfl ?_ ?_ ?_; (simp; omega); (have := hbL.size; omega); intro p3 c3 w3 ho3 hg3 hb3 hn3))
        go_ret
        exact gives_of HD.out (by simp [hL]) ho3 ((hbL.trans (hb2.mono hbL.size)).trans hb3)


theorem add_any (p q : Option Addr) (n m c d : Nat) (a b : Nat) (w : World) (hp : Rd w .u32 p (dig B32 a)) (hq : Rd w .u32 q (dig B32 b)) (hn : n = (dig B32 a).length) (hm : m = (dig B32 b).length)
    (hl : (dig B32 a).length ≤ 1000000000) (hl2 : (dig B32 b).length ≤ 1000000000) :
    Calls Tryd.prog 64 #[.slice p n c, .slice q m d] w (Gives w .u32 66 (dig B32 (a + b))) := by
  by_cases h : (dig B32 a).length < (dig B32 b).length
  · rw [Nat.add_comm]
    exact add_lt q p m n d c b a w hq hp hm hn hl2 h
  · exact add_ge p q n m c d a b w hp hq hn hm hl (by omega)

end Go.Proofs.YtcbjidcpcompoaaDoor
