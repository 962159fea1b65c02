/- The law NatSpreads: its walk. -/
import Derived.Test.YtococmfcaobmhaaLaw0
import Derived.Test.YtococmfcaobmhaaNat6
namespace Go.Proofs.Ytococmfcaobmhaa
open Go.RowKit Go.Slip

set_option maxHeartbeats 2000000 in
set_option maxRecDepth 100000 in
theorem lawSpr_row (p : Option Addr) (n c : Nat) (xs : List Nat) (q : Option Addr) (m d : Nat) (ys : List Nat) (r : Option Addr) (l k : Nat) (zs : List Nat) (w : World)
    (hp : Rd w .u32 p xs) (hn : n = xs.length) (hl : xs.length ≤ 9223372036854775807) (hx : ∀ x ∈ xs, x < B32)
    (hq : Rd w .u32 q ys) (hm : m = ys.length) (hl2 : ys.length ≤ 9223372036854775807) (hy : ∀ x ∈ ys, x < B32)
    (hr : Rd w .u32 r zs) (hk : l = zs.length) (hl3 : zs.length ≤ 9223372036854775807) (hz : ∀ x ∈ zs, x < B32) :
    Calls Try.prog 10 #[.slice p n c, .slice q m d, .slice r l k] w fun e w' => e = .returned (.bool true) ∧ Below w.heap.size w w' := by
  subst hn hm hk
  have HX := Lib.hid hx
  have HY := Lib.hid hy
  have HZ := Lib.hid hz
  have HA := Lib.hid (fun (w : World) (hp : Rd w .u32 p xs) (hq : Rd w .u32 q ys) => natAdd_any p q _ c _ d xs ys w hp hq rfl rfl hl hl2 hx hy)
  clear hx hy hz
  by_cases he : natE (err2 xs ys) (val B32 xs + val B32 ys) = 0
  · obtain ⟨h1, ls⟩ := natE_zero he
    obtain ⟨hxs, hys⟩ := err2_ok h1
    obtain ⟨ex, lx⟩ := errNat_ok HX.out hxs
    obtain ⟨ey, ly⟩ := errNat_ok HY.out hys
    rw [natL_good he, he] at HA
    clear he h1 hxs hys HX HY hl hl2
    generalize val B32 xs = a at *
    generalize val B32 ys = b at *
    subst ex ey
    have HM := Lib.hid (fun (w : World) (t : Option Addr) (e : Nat) (ht : Rd w .u32 t (dig B32 (a + b))) (hr : Rd w .u32 r zs) => natMul_any t r _ e _ k (dig B32 (a + b)) zs w ht hr rfl rfl (by omega) hl3 (dig_lt B32_two _) HZ.out)
    rw [val_dig B32_two] at HM
    by_cases hf : natE (err2 (dig B32 (a + b)) zs) ((a + b) * val B32 zs) = 0
    · obtain ⟨h1, lt⟩ := natE_zero hf
      obtain ⟨_, hzs⟩ := err2_ok h1
      obtain ⟨ez, lz⟩ := errNat_ok HZ.out hzs
      rw [natL_good hf, hf] at HM
      clear hf h1 hzs HZ hl3
      generalize val B32 zs = g at *
      subst ez
      have e1 := Lib.hid (show g * a + b * g = (a + b) * g by grind)
      have l1 : (dig B32 (g * a)).length ≤ 1200 := Nat.le_trans (dig_len_mono B32_two (by have := e1.out; omega)) lt
      have l2 : (dig B32 (b * g)).length ≤ 1200 := Nat.le_trans (dig_len_mono B32_two (by have := e1.out; omega)) lt
      go_enter Try.func10, Try.ntmps10
      go_wp2_with fail
      refine (natBegun_any _).mono ?_
      rintro e w1 ⟨rfl, hb1⟩
      go_wp2_with fail
      refine (HA.out _ (hp.past hb1) (hq.past hb1)).mono ?_
      rintro e w2 ⟨p2, c2, rfl, ho2, hb2⟩
      have hs2 := hb1.trans (hb2.mono hb1.size)
      go_wp2_with fail
      refine (HM.out _ p2 c2 ho2.rd (hr.past hs2)).mono ?_
      rintro e w3 ⟨p3, c3, rfl, ho3, hb3⟩
      have hs3 := hs2.trans (hb3.mono hs2.size)
      go_wp2_with fail
      refine (natMul_good r p _ k _ c g a _ (hr.past hs3) (hp.past hs3) rfl rfl lz lx l1).mono ?_
      rintro e w4 ⟨p4, c4, rfl, ho4, hb4⟩
      have hs4 := hs3.trans (hb4.mono hs3.size)
      go_wp2_with fail
      refine (natMul_good q r _ d _ k b g _ (hq.past hs4) (hr.past hs4) rfl rfl ly lz l2).mono ?_
      rintro e w5 ⟨p5, c5, rfl, ho5, hb5⟩
      have hs5 := hs4.trans (hb5.mono hs4.size)
      go_wp2_with fail
      refine (natAdd_good p4 p5 _ c4 _ c5 (g * a) (b * g) _ (ho4.rd.past hb5) ho5.rd rfl rfl l1 l2 (by rw [e1.out]; exact lt)).mono ?_
      rw [e1.out]
      rintro e w6 ⟨p6, c6, rfl, ho6, hb6⟩
      have hs6 := hs5.trans (hb6.mono hs5.size)
      have hr3 := ((ho3.rd.past hb4).past hb5).past hb6
      clear hb1 hb2 hb3 hb4 hb5 hb6 hs2 hs3 hs4 hs5 ho2 ho3 ho4 ho5
      go_wp2_with fail
      refine (refSameNat_any p3 p6 _ c3 _ c6 _ _ _ hr3 ho6.rd rfl rfl rfl (by omega)).mono ?_
      rintro e w7 ⟨rfl, hb7⟩
      go_wp2_with fail
      go_ret
      exact ⟨rfl, hs6.trans (hb7.mono hs6.size)⟩
    · have hb : (natE (err2 (dig B32 (a + b)) zs) ((a + b) * val B32 zs) == 0) = false := by simpa using hf
      have hb' : (natE (err2 (dig B32 (a + b)) zs) ((a + b) * val B32 zs) != 0) = true := by simpa using hf
      clear hf
      go_enter Try.func10, Try.ntmps10
      go_wp2_with fail
      refine (natBegun_any _).mono ?_
      rintro e w1 ⟨rfl, hb1⟩
      go_wp2_with fail
      refine (HA.out _ (hp.past hb1) (hq.past hb1)).mono ?_
      rintro e w2 ⟨p2, c2, rfl, ho2, hb2⟩
      have hs2 := hb1.trans (hb2.mono hb1.size)
      go_wp2_with fail
      refine (HM.out _ p2 c2 ho2.rd (hr.past hs2)).mono ?_
      rintro e w3 ⟨p3, c3, rfl, ho3, hb3⟩
      have hs3 := hs2.trans (hb3.mono hs2.size)
      go_wp2_with fail
      go_ret
      exact ⟨rfl, hs3⟩
  · have hb : (natE (err2 xs ys) (val B32 xs + val B32 ys) == 0) = false := by simpa using he
    have hb' : (natE (err2 xs ys) (val B32 xs + val B32 ys) != 0) = true := by simpa using he
    have HM := Lib.hid (fun (w : World) (t : Option Addr) (e : Nat) (ht : Rd w .u32 t (natL (err2 xs ys) (val B32 xs + val B32 ys))) (hr : Rd w .u32 r zs) => natMul_any t r _ e _ k (natL (err2 xs ys) (val B32 xs + val B32 ys)) zs w ht hr rfl rfl (by have := natL_len (e := err2 xs ys) (r := val B32 xs + val B32 ys); omega) hl3 (natL_lt _ _) HZ.out)
    clear he
    go_enter Try.func10, Try.ntmps10
    go_wp2_with fail
    refine (natBegun_any _).mono ?_
    rintro e w1 ⟨rfl, hb1⟩
    go_wp2_with fail
    refine (HA.out _ (hp.past hb1) (hq.past hb1)).mono ?_
    rintro e w2 ⟨p2, c2, rfl, ho2, hb2⟩
    have hs2 := hb1.trans (hb2.mono hb1.size)
    go_wp2_with fail
    refine (HM.out _ p2 c2 ho2.rd (hr.past hs2)).mono ?_
    rintro e w3 ⟨p3, c3, rfl, ho3, hb3⟩
    have hs3 := hs2.trans (hb3.mono hs2.size)
    go_wp2_with fail
    go_ret
    exact ⟨rfl, hs3⟩

end Go.Proofs.Ytococmfcaobmhaa
