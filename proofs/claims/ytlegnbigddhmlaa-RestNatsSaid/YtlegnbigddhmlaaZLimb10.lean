/- limb.less, limb.more: over a window of a row. -/
import Derived.Test.YtlegnbigddhmlaaZC
import Derived.Test.YtlegnbigddhmlaaZLimb6
import Derived.Test.YtlegnbigddhmlaaZA
namespace Go.Proofs.Ytlegnbigddhmlaa
open Go.RowKit Go.Slip

theorem own_window {w : World} {base : Nat} {k : IntKind} {e : TypeId} {p : Option Addr} {c : Nat} {X : List Nat} (h : Own w base k e p c X) (j : Nat) (hj : j < X.length) :
    (∀ i, at_ (p.map (·.add j)) i = at_ p (j + i)) ∧ Solid (p.map (·.add j)) (X.length - j) := by
  have h1 := h.rd.solid (by omega)
  refine ⟨fun i => at_map p j i h1.1, ?_⟩
  have := (h.rd.drop j).solid
  rwa [List.length_drop] at this

/-- What 'less' leaves. -/
def LessGives (w : World) (base : Nat) (e : TypeId) (p : Option Addr) (c : Nat) (X ys : List Nat) (j t : Nat) (en : Ending) (w' : World) : Prop :=
  ∃ L br, br ≤ 1 ∧ en = .returned (.bool (decide (0 < br))) ∧ Own w' base .u32 e p c L ∧ w.grownBy w' (some (blk p)) ∧ Below base w w' ∧
    WinOut L X j (ys.length + 1) ∧ val B32 L + B32 ^ j * (t * val B32 ys) = val B32 X + br * B32 ^ (j + (ys.length + 1))

set_option maxHeartbeats 1000000 in
set_option maxRecDepth 100000 in
theorem less_any (p pw q : Option Addr) (c cw n m d : Nat) (X ys : List Nat) (j t base : Nat) (w : World) (hX : Own w base .u32 26 p c X) (hq : Rd w .u32 q ys) (hpw : pw = p.map (·.add j)) (hm : m = ys.length) (hn : n = ys.length + 1)
    (hj : j + ys.length < X.length) (hxl : ∀ x ∈ X, x < B32) (hyl : ∀ x ∈ ys, x < B32) (ht : t < 4294967296) (hap : Apart p q ys) (hps : p.isSome = true) (hl : X.length ≤ 1000000000) :
    Calls Try.prog 45 #[.slice pw n cw, .slice q m d, .int .u32 t] w (LessGives w base 26 p c X ys j t) := by
  subst hm hn
  obtain ⟨hat, hsw⟩ := own_window hX j (by omega)
  have hsw := hsw.mono (show ys.length + 1 ≤ X.length - j by omega)
  rw [← hpw] at hat hsw
  clear hpw
  have hsy := hq.solid
  have HXL := Lib.hid hxl
  have HYL := Lib.hid hyl
  have HAT := Lib.hid hat
  have H0 := Lib.hid (LessW.start hxl ys j t)
  have HPS := Lib.hid hps
  clear hxl hyl hat hps
  go_enter Try.func45, Try.ntmps45
  go_wp2
  go_loopw [7, 8, 14] (fun cv bv iv wr => ∃ (i cr br : Nat) (L : List Nat), iv = .int .i64 i ∧ cv = .int .u64 cr ∧ bv = .int .u32 br ∧ i ≤ ys.length ∧ cr < 4294967296 ∧ br ≤ 1 ∧ Hid (L.length = X.length) ∧ Own wr base .u32 26 p c L ∧ w.grownBy wr (some (blk p)) ∧ Below base w wr ∧ Hid (LessW L X ys j t i cr br))
    (fun _ _ iv _ => ys.length - (intOf iv).toNat)
  case atStart => exact ⟨0, 0, 0, X, rfl, rfl, rfl, Nat.zero_le _, by omega, by omega, rfl, hX, World.grownBy.refl _ _, Below.refl _ _, H0⟩
  case round =>
    obtain ⟨i, cr, br, L, rfl, rfl, rfl, hi, hcr, hbr, hL, hoL, hgL, hbL, HR⟩ := hrel
    have hqL := hq.written hgL hap HPS.out
    have hLd := getD_lt (B := 4294967296) (by omega) L HR.out.1.1 (j + i)
    have hXd := getD_lt (B := 4294967296) (by omega) X HXL.out (j + i)
    have hc1 := hoL.rd.cells (j + i) (by rw [hL.out]; omega)
    rw [← HAT.out i] at hc1
    by_cases hlt : i < ys.length
    · have hc2 := hqL.cells i hlt
      have hyd := getD_lt (B := 4294967296) (by omega) ys HYL.out i
      obtain ⟨hpr, hpr0⟩ := prod_le hyd ht
      obtain ⟨P, hP⟩ : ∃ P, P = dg ys i * t + cr := ⟨_, rfl⟩
      have HS := Lib.hid (HR.out.step (by omega) hXd hbr P hP)
      have et : (dg ys i : Int) * (t : Nat) + (cr : Nat) = (P : Nat) := by rw [hP]; simp
      have hP0 : P < 18446744073709551616 := by omega
      obtain ⟨pl, hpl⟩ : ∃ pl, pl = P % 4294967296 := ⟨_, rfl⟩
      obtain ⟨ph, hph⟩ : ∃ ph, ph = P / 4294967296 := ⟨_, rfl⟩
      have em : (P : Int) % 4294967296 = (pl : Nat) := by omega
      have ed : (P : Int) / 4294967296 = (ph : Nat) := by omega
      have hpl0 : pl < 4294967296 := by omega
      have hph0 : ph < 4294967296 := by omega
      rw [← hpl, ← hph] at HS
      have HC := subB_le (dg L (j + i)) pl br
      clear hP hpl hph
      go_wp2_with (first
        | (go_at_call 52; refine (sub32_any _ _ br _ hLd hpl0 hbr).mono ?_; rintro e w2 ⟨rfl, rfl⟩)
        | (refine wpl_store rfl _ _ _ rfl 26 tyNat _ _ _ _ hoL (j + i) (by rw [hL.out]; omega) _ ?_ (by rw [← HAT.out i]; rfl) rfl ?_; omega; intro w3 ho3 hg3 hb3))
      rw [Int.toNat_natCast] at ho3
      go_roundw
      case rel => exact ⟨i + 1, ph, subB (dg L (j + i)) pl br, _, by go_num, rfl, rfl, hlt, hph0, HC, (by show (List.set _ _ _).length = _; rw [List.length_set]; exact hL.out), ho3, hgL.trans hg3, hbL.trans hb3, HS⟩
      case measure => simp [intOf]; omega
    · obtain rfl : i = ys.length := by omega
      obtain ⟨HW, HV⟩ := HR.out.last (by omega) hXd hbr hcr
      have HW := Lib.hid HW
      have HV := Lib.hid HV
      have HC := subB_le (dg L (j + ys.length)) cr br
      have ec : (cr : Int) % 4294967296 = (cr : Nat) := by omega
      go_wp2_with (first
        | (go_at_call 52; refine (sub32_any _ _ br _ hLd hcr hbr).mono ?_; rintro e w2 ⟨rfl, rfl⟩)
        | (refine wpl_store rfl _ _ _ rfl 26 tyNat _ _ _ _ hoL (j + ys.length) (by rw [hL.out]; omega) _ ?_ (by rw [← HAT.out ys.length]; rfl) rfl ?_; omega; intro w3 ho3 hg3 hb3))
      rw [Int.toNat_natCast] at ho3
      go_ret
      exact ⟨_, subB (dg L (j + ys.length)) cr br, HC, ret_bool (by simp), ho3, hgL.trans hg3, hbL.trans hb3, HW.out, HV.out⟩

/-- What 'more' leaves. -/
def MoreGives (w : World) (base : Nat) (e : TypeId) (p : Option Addr) (c : Nat) (X ys : List Nat) (j : Nat) (en : Ending) (w' : World) : Prop :=
  ∃ L co, en = .returned (.tuple #[]) ∧ Own w' base .u32 e p c L ∧ w.grownBy w' (some (blk p)) ∧ Below base w w' ∧
    WinOut L X j (ys.length + 1) ∧ val B32 L + co * B32 ^ (j + (ys.length + 1)) = val B32 X + B32 ^ j * val B32 ys

set_option maxHeartbeats 1000000 in
set_option maxRecDepth 100000 in
theorem more_any (p pw q : Option Addr) (c cw n m d : Nat) (X ys : List Nat) (j base : Nat) (w : World) (hX : Own w base .u32 26 p c X) (hq : Rd w .u32 q ys) (hpw : pw = p.map (·.add j)) (hm : m = ys.length) (hn : n = ys.length + 1)
    (hj : j + ys.length < X.length) (hxl : ∀ x ∈ X, x < B32) (hyl : ∀ x ∈ ys, x < B32) (hap : Apart p q ys) (hps : p.isSome = true) (hl : X.length ≤ 1000000000) :
    Calls Try.prog 46 #[.slice pw n cw, .slice q m d] w (MoreGives w base 26 p c X ys j) := by
  subst hm hn
  obtain ⟨hat, hsw⟩ := own_window hX j (by omega)
  have hsw := hsw.mono (show ys.length + 1 ≤ X.length - j by omega)
  rw [← hpw] at hat hsw
  clear hpw
  have hsy := hq.solid
  have HXL := Lib.hid hxl
  have HYL := Lib.hid hyl
  have HAT := Lib.hid hat
  have H0 := Lib.hid (MoreW.start hxl ys j)
  have HPS := Lib.hid hps
  clear hxl hyl hat hps
  go_enter Try.func46, Try.ntmps46
  go_wp2
  go_loopw [4, 9] (fun cv iv wr => ∃ (i cr : Nat) (L : List Nat), iv = .int .i64 i ∧ cv = .int .u32 cr ∧ i ≤ ys.length ∧ cr ≤ 1 ∧ Hid (L.length = X.length) ∧ Own wr base .u32 26 p c L ∧ w.grownBy wr (some (blk p)) ∧ Below base w wr ∧ Hid (MoreW L X ys j i cr))
    (fun _ iv _ => ys.length - (intOf iv).toNat)
  case atStart => exact ⟨0, 0, X, rfl, rfl, Nat.zero_le _, by omega, rfl, hX, World.grownBy.refl _ _, Below.refl _ _, H0⟩
  case round =>
    obtain ⟨i, cr, L, rfl, rfl, hi, hcr, hL, hoL, hgL, hbL, HR⟩ := hrel
    have hqL := hq.written hgL hap HPS.out
    have hLd := getD_lt (B := 4294967296) (by omega) L HR.out.1.1 (j + i)
    have hc1 := hoL.rd.cells (j + i) (by rw [hL.out]; omega)
    rw [← HAT.out i] at hc1
    by_cases hlt : i < ys.length
    · have hc2 := hqL.cells i hlt
      have hyd := getD_lt (B := 4294967296) (by omega) ys HYL.out i
      have HS := Lib.hid (HR.out.step (by omega) _ rfl)
      have HC : (dg L (j + i) + dg ys i + cr) / 4294967296 ≤ 1 := by omega
      go_wp2_with (first
        | (go_at_call 40; refine (add32_any _ _ cr _ hLd hyd hcr).mono ?_; rintro e w2 ⟨rfl, rfl⟩)
        | (refine wpl_store rfl _ _ _ rfl 26 tyNat _ _ _ _ hoL (j + i) (by rw [hL.out]; omega) _ ?_ (by rw [← HAT.out i]; rfl) rfl ?_; omega; intro w3 ho3 hg3 hb3))
      have e3 : (((dg L (j + i) : Int) + dg ys i + cr) % 4294967296).toNat = (dg L (j + i) + dg ys i + cr) % 4294967296 := by omega
      rw [e3] at ho3
      go_roundw
      case rel => exact ⟨i + 1, (dg L (j + i) + dg ys i + cr) / 4294967296, _, by go_num, by go_num, hlt, HC, (by show (List.set _ _ _).length = _; rw [List.length_set]; exact hL.out), ho3, hgL.trans hg3, hbL.trans hb3, HS⟩
      case measure => simp [intOf]; omega
    · obtain rfl : i = ys.length := by omega
      obtain ⟨HW, HV⟩ := HR.out.last (by omega)
      have HW := Lib.hid HW
      have HV := Lib.hid HV
      go_wp2_with (refine wpl_store rfl _ _ _ rfl 26 tyNat _ _ _ _ hoL (j + ys.length) (by rw [hL.out]; omega) _ ?_ (by rw [← HAT.out ys.length]; rfl) rfl ?_; omega; intro w3 ho3 hg3 hb3)
      have e3 : (((dg L (j + ys.length) : Int) + cr) % 4294967296).toNat = (dg L (j + ys.length) + cr) % 4294967296 := by omega
      rw [e3] at ho3
      go_end0
      exact ⟨_, _, rfl, ho3, hgL.trans hg3, hbL.trans hb3, HW.out, HV.out⟩

end Go.Proofs.Ytlegnbigddhmlaa
