/- The references' division: of more than one digit. -/
import Derived.Test.YtlegnbigddhmlaaZRef7
import Derived.Test.YtlegnbigddhmlaaZRef4
import Derived.Test.YtlegnbigddhmlaaZRef5
import Derived.Test.YtlegnbigddhmlaaZRef9
import Derived.Test.YtlegnbigddhmlaaZA
namespace Go.Proofs.Ytlegnbigddhmlaa
open Go.RowKit Go.Slip

theorem _root_.Go.Slip.SmallRel.skip {B : Nat} {L xs : List Nat} {d k r : Nat} (h : SmallRel B L xs d (k + 1) r) (hk : k < xs.length) (hL : k < L.length) (hx : dg xs k < B) (hz : dg L k = 0) (hlt : r * B + dg xs k < d) : SmallRel B L xs d k (r * B + dg xs k) := by
  have h1 := (h.step hk hL hx).1
  rw [Nat.div_eq_of_lt hlt, Nat.mod_eq_of_lt hlt, set_same L k hz] at h1
  exact h1

theorem div_digit {B R j : Nat} : R / B ^ j = B * (R / B ^ (j + 1)) + R / B ^ j % B := by
  rw [Nat.pow_succ, ← Nat.div_div_eq_div_mul, Nat.div_add_mod]

theorem dg_dig {B : Nat} (hB : 2 ≤ B) (R j : Nat) : dg (dig B R) j = R / B ^ j % B := by
  have h1 := val_drop_div (B := B) (by omega) (dig B R) (dig_lt hB R) j
  have h2 := val_drop0 B (dig B R) j
  rw [val_dig hB] at h1
  rw [h1] at h2
  rw [h2, Nat.add_mul_mod_self_left, Nat.mod_eq_of_lt (getD_lt (by omega) _ (dig_lt hB R) j)]

theorem top_step {R n k tp : Nat} (hk : k ≤ n) (h : tp = R / B16 ^ (n + 1 - k)) : 65536 * tp + dg (dig B16 R) (n - k) = R / B16 ^ (n - k) := by
  rw [dg_dig B16_two, h, show n + 1 - k = n - k + 1 by omega]
  exact (div_digit (B := B16)).symm

theorem top_lt {R n k : Nat} (hk : k ≤ n + 1) (h : R < B16 ^ (n + 1)) : R / B16 ^ (n + 1 - k) < B16 ^ k := by
  rw [Nat.div_lt_iff_lt_mul (Nat.pow_pos B16_pos), ← Nat.pow_add, show k + (n + 1 - k) = n + 1 by omega]
  exact h

theorem top_under {b n : Nat} (h2 : (dig B16 b).length = n + 2) : dg (dig B16 b) (n + 1) * 65536 + dg (dig B16 b) n = b / B16 ^ n ∧ B16 ≤ b / B16 ^ n := by
  have hb : b < B16 ^ (n + 2) := (dig_len_le B16_two b _).1 (by omega)
  have h0 : 0 < b := by
    have := dig_len_zero B16_two b
    omega
  have h1 := dig_len_pow B16_two b h0
  rw [h2] at h1
  have e1 : b / B16 ^ (n + 2) = 0 := Nat.div_eq_of_lt hb
  have e2 : b / B16 ^ n = B16 * (b / B16 ^ (n + 1)) + b / B16 ^ n % B16 := div_digit
  have e3 : b / B16 ^ (n + 1) = B16 * (b / B16 ^ (n + 2)) + b / B16 ^ (n + 1) % B16 := div_digit
  rw [dg_dig B16_two, dg_dig B16_two]
  have e4 : b / B16 ^ (n + 1) % B16 = b / B16 ^ (n + 1) := by rw [e1] at e3; omega
  refine ⟨by rw [e4, show (65536 : Nat) = B16 from rfl, Nat.mul_comm]; exact e2.symm, ?_⟩
  rw [Nat.le_div_iff_mul_le (Nat.pow_pos B16_pos), Nat.mul_comm, ← Nat.pow_succ]
  exact h1

set_option maxHeartbeats 4000000 in
set_option maxRecDepth 100000 in
theorem refInto_more (p q : Option Addr) (n m c e0 : Nat) (a b nn : Nat) (w : World) (hp : Rd w .i64 p (dig B16 a)) (hq : Rd w .i64 q (dig B16 b)) (hn : n = (dig B16 a).length) (hm : m = (dig B16 b).length)
    (hl : (dig B16 a).length ≤ 100000000) (hl2 : (dig B16 b).length ≤ 100000000) (h2 : (dig B16 b).length = nn + 2) :
    Calls Try.prog 19 #[.slice p n c, .slice q m e0] w (GivesR2 w .i64 (dig B16 (a / b)) (dig B16 (a % b))) := by
  subst hn hm
  have HA := Lib.hid (val_dig B16_two a)
  have HXL := Lib.hid (dig_lt B16_two a)
  generalize dig B16 a = xs at *
  obtain ⟨hun, hub⟩ := top_under h2
  obtain ⟨ys, hys⟩ : ∃ ys, ys = dig B16 b := ⟨_, rfl⟩
  rw [← hys] at hq hl2 h2 hun ⊢
  obtain ⟨b1, hb1⟩ : ∃ b1, dg ys (nn + 1) = b1 := ⟨_, rfl⟩
  obtain ⟨b0, hb0⟩ : ∃ b0, dg ys nn = b0 := ⟨_, rfl⟩
  rw [hb1, hb0] at hun
  have hb1l : b1 < 65536 := by rw [← hb1, hys]; exact getD_lt (B := 65536) (by omega) _ (dig_lt B16_two b) _
  have hb0l : b0 < 65536 := by rw [← hb0, hys]; exact getD_lt (B := 65536) (by omega) _ (dig_lt B16_two b) _
  obtain ⟨un, hunn⟩ : ∃ un, un = b1 * 65536 + b0 := ⟨_, rfl⟩
  rw [← hunn] at hun
  have hul : un < 4294967296 := by omega
  have HUN := Lib.hid hun
  have HUB := Lib.hid (show B16 ≤ un by rw [hun]; exact hub)
  have eun : (b1 : Int) * 65536 + (b0 : Nat) = (un : Nat) := by omega
  have HYS := Lib.hid hys
  have HN := Lib.hid h2
  have y2 : 2 ≤ ys.length := by omega
  have hsx := hp.solid
  have hsy := hq.solid
  have t1 : ((ys.length : Int) == 1) = false := beq_eq_false_iff_ne.2 (by omega)
  have hcb1 := hq.cells (ys.length - 1) (by omega)
  have hcb0 := hq.cells (ys.length - 2) (by omega)
  rw [show ys.length - 1 = nn + 1 by omega, hb1, show nn + 1 = ys.length - 1 by omega] at hcb1
  rw [show ys.length - 2 = nn by omega, hb0, show nn = ys.length - 2 by omega] at hcb0
  have HB : Hid (0 < b) := by
    have := dig_len_zero B16_two b
    rw [← hys] at this
    show 0 < b
    omega
  have HBL := Lib.hid (show b < B16 ^ (nn + 2) from (dig_len_le B16_two b _).1 (by rw [← hys]; omega))
  clear hys h2 hun hub hunn hb1 hb0
  go_enter Try.func19, Try.ntmps19
  go_wp2_with (refine wpl_make rfl _ _ _ rfl tyN .i64 .i64 xs.length _ _ rfl rfl ?_ ?_ ?_ ?_; omega; omega; omega; intro p1 c1 w1 ho1 hb1 hz1)
  have hsz1 := hb1.size
  have hp1l : p1.isSome = true → blk p1 < w1.heap.size := fun h => (ho1.blk_lt h).2
  go_loopw [10, 11] (fun rv iv wr => ∃ (k r : Nat) (L : List Nat) (pr : Option Addr) (cr : Nat), iv = .int .i64 ((k : Int) - 1) ∧ rv = .slice pr (dig B16 r).length cr ∧ k ≤ xs.length ∧ Hid (L.length = xs.length) ∧ Rd wr .i64 pr (dig B16 r) ∧ (dig B16 r).length ≤ cr ∧
      (0 < (dig B16 r).length → w1.heap.size ≤ blk pr) ∧ Own wr w.heap.size .i64 3 p1 c1 L ∧ Below w.heap.size w wr ∧ w1.heap.size ≤ wr.heap.size ∧ Hid (SmallRel B16 L xs b k r ∧ ∀ i, i < k → dg L i = 0))
    (fun _ iv _ => (intOf iv + 1).toNat)
  case atStart => exact ⟨xs.length, 0, _, none, 0, rfl, by rw [dig_zero]; rfl, Nat.le_refl _, List.length_replicate, by rw [dig_zero]; exact Rd.nil _ _ _, by rw [dig_zero]; simp, by rw [dig_zero]; simp, ho1, hb1, Nat.le_refl _,
    ⟨⟨fun x hx => by rw [(List.mem_replicate.1 hx).2]; exact B16_pos, HB.out, by simp⟩, fun i _ => dg_replicate _ _⟩⟩
  case round =>
    obtain ⟨k, r, L, pr, cr, rfl, rfl, hk, hL, hrr, hrc, hrb, hoL, hbL, hszL, HR⟩ := hrel
    have hpL := hp.past hbL
    have hqL := hq.past hbL
    by_cases h0 : 0 < k
    · obtain ⟨j, rfl⟩ : ∃ j, k = j + 1 := ⟨k - 1, by omega⟩
      have ej : ((j + 1 : Nat) : Int) - 1 = j := by omega
      rw [ej]
      have hc1 := hpL.cells j (by omega)
      have hxd := getD_lt (B := 65536) (by omega) xs HXL.out j
      obtain ⟨x, hx⟩ : ∃ x, dg xs j = x := ⟨_, rfl⟩
      rw [hx] at hc1 hxd
      obtain ⟨R, hRR⟩ : ∃ R, R = r * B16 + x := ⟨_, rfl⟩
      have HX := Lib.hid hx
      have HRR := Lib.hid hRR
      have hrl : (dig B16 r).length ≤ ys.length := by rw [HYS.out]; exact dig_len_mono B16_two (Nat.le_of_lt HR.out.1.2.1)
      have HLD : Hid (∀ y ∈ [x] ++ dig B16 r, y < B16) := by
        intro y hy
        rcases List.mem_append.1 hy with h | h
        · simp at h; rw [h]; exact hxd
        · exact dig_lt B16_two r y h
      have HVR : Hid (val B16 ([x] ++ dig B16 r) = R) := by
        show val B16 ([x] ++ dig B16 r) = R
        rw [List.singleton_append, val_cons, val_dig B16_two, hRR, Nat.mul_comm B16 r]; omega
      have HRB := Lib.hid (show R < b * B16 by have := HR.out.1.push (by rw [hx]; exact hxd); rw [hRR, ← hx, Nat.mul_comm r B16]; omega)
      clear hx hRR ej
      have hxs := hsx
      go_wp2_with (first
        | (refine wpl_build1 rfl _ _ rfl tyN _ ?_ rfl ?_; omega; intro p2 w2 ho2 hb2 hz2 hp2)
        | (at_builtin; rw [Int.toNat_natCast] at ho2; refine wpl_append rfl _ _ _ rfl tyN _ _ _ _ _ ho2 rfl _ _ _ _ (hrr.past hb2) rfl rfl rfl ?_ ?_ ?_; (simp; omega); (have := hb2.size; omega); intro p3 c3 w3 ho3 hg3 hb3 hn3))
      refine (refTrim_any p3 _ c3 ([x] ++ dig B16 r) _ ho3.rd rfl ho3.le_cap HLD.out (by simp; omega)).mono ?_
      rintro e w4 ⟨rfl, rfl⟩
      rw [HVR.out]
      have hrt := ho3.take (dig B16 (val B16 ([x] ++ dig B16 r))).length
      rw [take_dig_len B16_two _ HLD.out, HVR.out] at hrt
      have hrn : 0 < (dig B16 R).length → w1.heap.size ≤ blk p3 := fun h => by
        have := (hrt.blk_lt (hrt.rd.solid h).1).1
        omega
      have hb23 := hb2.trans hb3
      have hoL3 := hoL.past hb23
      have hs3 := hbL.trans (hb23.mono hbL.size)
      have hsz3 : w1.heap.size ≤ w3.heap.size := Nat.le_trans hszL hb23.size
      have hrR := hrt.rd
      have hrl2 : (dig B16 R).length ≤ ys.length + 1 := by
        rw [dig_len_le B16_two, HN.out, show nn + 2 + 1 = (nn + 2) + 1 by omega, Nat.pow_succ]
        exact Nat.lt_of_lt_of_le HRB.out (Nat.mul_le_mul_right _ (Nat.le_of_lt HBL.out))
      clear hb2 hb3 hz2 hp2 ho2 ho3 hg3 hn3 hb23 hrt hrr hrc hrb hoL hbL hszL hpL hc1
      have hq3 := hq.past hs3
      have hq3b : Rd w3 .i64 q (dig B16 b) := by rw [← HYS.out]; exact hq3
      have lyb := Lib.hid (show ys.length = (dig B16 b).length by rw [← HYS.out])
      have lyb2 : (dig B16 b).length ≤ 100000000 := by rw [← HYS.out]; exact hl2
      go_wp2_with fail
      refine (refCmp_any p3 q _ _ _ e0 R b _ hrR hq3b rfl lyb.out (by omega) (by omega)).mono ?_
      rintro e w5 ⟨rfl, hb5⟩
      have hrR := hrR.past hb5
      have hoL5 := hoL3.past hb5
      have hs5 := hs3.trans (hb5.mono hs3.size)
      have hsz5 : w1.heap.size ≤ w5.heap.size := Nat.le_trans hsz3 hb5.size
      have hsb5 := hs5.size
      have hq5 := hq.past hs5
      clear hb5 hoL3 hs3 hsz3 hq3 hq3b
      by_cases hRb : R < b
      · have hC : cmpN R b ≤ -1 := by rw [cmpN_lt hRb]; omega
        have HS : Hid (SmallRel B16 L xs b j R ∧ ∀ i, i < j → dg L i = 0) := by
          have h := HR.out.1.skip (by omega) (by rw [hL.out]; omega) (by rw [HX.out]; exact hxd) (HR.out.2 j (by omega)) (by rw [HX.out, ← HRR.out]; exact hRb)
          rw [HX.out, ← HRR.out] at h
          exact ⟨h, fun i hi => HR.out.2 i (by omega)⟩
        clear hRb
        go_wp2_with fail
        go_roundw
        case rel => exact ⟨j, R, L, p3, _, rfl, rfl, by omega, hL, hrR, Nat.le_refl _, hrn, hoL5, hs5, hsz5, HS⟩
        case measure => first | (simp [intOf]; done) | (simp [intOf]; omega)
      · have hC : 0 ≤ cmpN R b := by unfold cmpN; rw [if_neg hRb]; split <;> omega
        have HRb := Lib.hid hRb
        have hsr := hrR.solid
        have c1 := hq5.cells (ys.length - 1) (by omega)
        have c0 := hq5.cells (ys.length - 2) (by omega)
        have i1 := (hq.cells (ys.length - 1) (by omega)).symm.trans hcb1
        have i0 := (hq.cells (ys.length - 2) (by omega)).symm.trans hcb0
        simp only [Option.some.injEq, Value.int.injEq, true_and] at i1 i0
        rw [i1] at c1
        rw [i0] at c0
        clear i1 i0 hRb
        have f1 : (0 : Int) ≤ (ys.length : Int) - 1 := by omega
        have f2 : (ys.length : Int) - 1 < (ys.length : Int) := by omega
        have f3 : (0 : Int) ≤ (ys.length : Int) - 2 := by omega
        have f4 : (ys.length : Int) - 2 < (ys.length : Int) := by omega
        have e1 : IntKind.i64.wrap ((ys.length : Int) - 1) = (ys.length : Int) - 1 := IntWalk.i64_in _ (by omega)
        have e2 : IntKind.i64.wrap ((ys.length : Int) - 2) = (ys.length : Int) - 2 := IntWalk.i64_in _ (by omega)
        have e3 : ((ys.length : Int) - 1).toNat = ys.length - 1 := by omega
        have e4 : ((ys.length : Int) - 2).toNat = ys.length - 2 := by omega
        have e5 : IntKind.i64.wrap ((b1 : Int) * 65536) = (b1 : Int) * 65536 := IntWalk.i64_in _ (by omega)
        have e6 : IntKind.i64.wrap (un : Int) = (un : Int) := IntWalk.i64_in _ (by omega)
        go_wp2_with fail
        go_quiet (fail)
        clear f1 f2 f3 f4 e1 e2 e3 e4 e5 e6 c1 c0
        have hrR := hrR.drewN nq
        have hoL6 := hoL5.drewN nq
        have hs6 := below_drewN hs5 nq
        have hq6 := hq5.drewN nq
        have hsz6 : w1.heap.size ≤ (w5.drewN nq).heap.size := hsz5
        generalize w5.drewN nq = w6 at *
        clear hoL5 hs5 hq5 hsz5 hsb5
        go_wp2_with fail
        have HRn := Lib.hid (show R < B16 ^ (ys.length + 1) by rw [HN.out, Nat.pow_succ]; exact Nat.lt_of_lt_of_le HRB.out (Nat.mul_le_mul_right _ (Nat.le_of_lt HBL.out)))
        go_loop [12, 14] (fun tv kv => ∃ (kk tp : Nat), kv = .int .i64 kk ∧ tv = .int .i64 tp ∧ kk ≤ 3 ∧ tp < 281474976710656 ∧ (kk < 3 → tp < 4294967296) ∧ Hid (tp = R / B16 ^ (ys.length + 1 - kk))) (fun _ kv => 3 - (intOf kv).toNat)
        case atStart => exact ⟨0, 0, rfl, rfl, by omega, by omega, fun _ => by omega, (show 0 = R / B16 ^ (ys.length + 1 - 0) from (Nat.div_eq_of_lt HRn.out).symm)⟩
        case round =>
          obtain ⟨kk, tp, rfl, rfl, hkk, htp, htp2, HT⟩ := hrel
          by_cases hk3 : kk < 3
          · have htp3 := htp2 hk3
            obtain ⟨dd, hdd⟩ : ∃ dd, dg (dig B16 R) (ys.length - kk) = dd := ⟨_, rfl⟩
            have hstep := top_step (R := R) (n := ys.length) (k := kk) (by omega) HT.out
            rw [hdd] at hstep
            have hlt := top_lt (R := R) (n := ys.length) (k := kk + 1) (by omega) HRn.out
            rw [show ys.length + 1 - (kk + 1) = ys.length - kk by omega, ← hstep] at hlt
            have hlt3 : 65536 * tp + dd < 281474976710656 := Nat.lt_of_lt_of_le hlt (Nat.le_trans (Nat.pow_le_pow_right B16_pos (show kk + 1 ≤ 3 by omega)) (by decide))
            have hlt2 : kk + 1 < 3 → 65536 * tp + dd < 4294967296 := fun h => Nat.lt_of_lt_of_le hlt (Nat.le_trans (Nat.pow_le_pow_right B16_pos (show kk + 1 ≤ 2 by omega)) (by decide))
            have HS : Hid (65536 * tp + dd = R / B16 ^ (ys.length + 1 - (kk + 1))) := by rw [show ys.length + 1 - (kk + 1) = ys.length - kk by omega]; exact hstep
            have hddl : dd < 65536 := by rw [← hdd]; exact getD_lt (B := 65536) (by omega) _ (dig_lt B16_two R) _
            have g1 : (0 : Int) ≤ (ys.length : Int) - (kk : Int) := by omega
            have g3 : ((ys.length : Int) - (kk : Int)).toNat = ys.length - kk := by omega
            clear hlt hstep
            by_cases hat : ys.length - kk < (dig B16 R).length
            · have hcr := hrR.cells (ys.length - kk) hat
              rw [hdd] at hcr
              have g2 : (ys.length : Int) - (kk : Int) < ((dig B16 R).length : Int) := by omega
              have HL2 := Lib.hid hlt2
              clear hat hdd hlt2 htp2
              go_wp2_with fail
              go_round
              case rel => exact ⟨kk + 1, 65536 * tp + dd, by go_num, by go_num, by omega, hlt3, HL2.out, HS⟩
              case measure => simp [intOf]; omega
            · have hd0 : dd = 0 := by rw [← hdd]; exact dg_of_ge (by omega)
              subst hd0
              have g2 : ((dig B16 R).length : Int) ≤ (ys.length : Int) - (kk : Int) := by omega
              have HL2 := Lib.hid hlt2
              clear hat hdd hlt2 htp2
              go_wp2_with fail
              go_round
              case rel => exact ⟨kk + 1, 65536 * tp + 0, by go_num, by go_num, by omega, hlt3, HL2.out, HS⟩
              case measure => simp [intOf]; omega
          · obtain rfl : kk = 3 := by omega
            have hT : tp = R / B16 ^ nn := by have := HT.out; rw [HN.out, show nn + 2 + 1 - 3 = nn by omega] at this; exact this
            obtain ⟨ht1, ht2⟩ := into_trial (P := B16 ^ nn) (Nat.pow_pos B16_pos) (by rw [← HUN.out]; exact HUB.out) HRB.out
            rw [← hT, ← HUN.out] at ht1 ht2
            have hqd : R / b < 65536 := by rw [Nat.div_lt_iff_lt_mul HB.out, Nat.mul_comm]; exact HRB.out
            obtain ⟨xq, hxq⟩ : ∃ xq, xq = tp / (un + 1) := ⟨_, rfl⟩
            obtain ⟨qd, hqq⟩ : ∃ qd, qd = R / b := ⟨_, rfl⟩
            rw [← hxq, ← hqq] at ht1 ht2
            rw [← hqq] at hqd
            have ex : (tp : Int) / ((un : Int) + 1) = (xq : Nat) := by rw [hxq]; rfl
            have HQD := Lib.hid hqq
            have hu1 : (1 : Int) ≤ (un : Int) + 1 := by omega
            clear hT hxq hqq hk3 htp2
            go_wp2_with fail
            obtain ⟨d0, hd0⟩ : ∃ d0 : Nat, (d0 : Int) = min 65535 (max 0 ((xq : Int) - 1) + 4) := ⟨(min 65535 (max 0 ((xq : Int) - 1) + 4)).toNat, by omega⟩
            have hd1 : qd ≤ d0 := by omega
            have hd2 : d0 ≤ 65535 := by omega
            have HD0 := Lib.hid hd0
            clear hd0 ex ht1 ht2 hu1
            go_loopg [10, 17] d0 (fun g rv dv wr2 => ∃ (d : Nat), d = g ∧ rv = .slice p3 (dig B16 R).length (dig B16 R).length ∧ dv = .int .i64 d ∧ qd ≤ d ∧ d ≤ 65535 ∧ Below w6.heap.size w6 wr2)
            case atStart => exact ⟨d0, rfl, rfl, congrArg (Value.int .i64) HD0.out.symm, hd1, hd2, Below.refl _ _⟩
            case round =>
              obtain ⟨d, rfl, rfl, rfl, hqd1, hdl, hb7⟩ := hrel
              have ld : (dig B16 d).length ≤ 1 := (dig_len_le B16_two d 1).2 (by unfold B16; omega)
              have lbd : (dig B16 (b * d)).length ≤ 100000001 := by have := dig_len_mul B16_two b d; omega
              go_wp2_with fail
              ((with_reducible refine (refFrom_any d _ (by omega)).mono ?_))
              rintro e w8 ⟨p8, c8, rfl, hr8, -, -, hb8⟩
              have hs8 := hb7.trans (hb8.mono hb7.size)
              have hq8 : Rd w8 .i64 q (dig B16 b) := by rw [← HYS.out]; exact hq6.past hs8
              clear hb7 hb8
              go_wp2_with fail
              ((with_reducible refine (refTimes_any q p8 _ _ e0 c8 b d _ hq8 hr8 lyb.out rfl (by omega)).mono ?_))
              rintro e w9 ⟨p9, c9, rfl, hr9, -, -, hb9⟩
              have hs9 := hs8.trans (hb9.mono hs8.size)
              clear hs8 hb9 hr8 hq8
              go_wp2_with fail
              ((with_reducible refine (refCmp_any p9 p3 _ _ c9 _ (b * d) R _ hr9 (hrR.past hs9) rfl rfl (by omega) (by omega)).mono ?_))
              rintro e w10 ⟨rfl, hb10⟩
              have hs10 := hs9.trans (hb10.mono hs9.size)
              have hr10 := hr9.past hb10
              have hrR10 := hrR.past hs10
              clear hs9 hb10 hr9
              by_cases hle : b * d ≤ R
              · have hC2 : cmpN (b * d) R ≤ 0 := by unfold cmpN; split; omega; rw [if_neg (by omega)]; omega
                have hdq : d = qd := by
                  have : d ≤ qd := by rw [HQD.out, Nat.le_div_iff_mul_le HB.out, Nat.mul_comm]; exact hle
                  omega
                have HMM := Lib.hid (show R - b * d = R % b by rw [hdq, HQD.out]; have := Nat.div_add_mod R b; omega)
                have HS : Hid (SmallRel B16 (L.set j d) xs b j (R % b) ∧ ∀ i, i < j → dg (L.set j d) i = 0) := by
                  have h := (HR.out.1.step (by omega) (by rw [hL.out]; omega) (by rw [HX.out]; exact hxd)).1
                  rw [HX.out, ← HRR.out, ← HQD.out, ← hdq] at h
                  exact ⟨h, fun i hi => by rw [dg_set_ne (by omega)]; exact HR.out.2 i (by omega)⟩
                have HLE := Lib.hid hle
                clear hdq hle
                go_wp2_with fail
                ((with_reducible refine (refLess_any p3 p9 _ _ _ c9 R (b * d) _ hrR10 hr10 rfl rfl (by omega) HLE.out).mono ?_))
                rw [HMM.out]
                rintro e w11 ⟨p11, c11, rfl, hr11, hl11, hk11, hb11⟩
                have hs11 := hs10.trans (hb11.mono hs10.size)
                have hk12 : 0 < (dig B16 (R % b)).length → w1.heap.size ≤ blk p11 := fun h => by
                  have := hk11 h
                  have := hs10.size
                  omega
                have hoL11 := hoL6.past hs11
                have hbw11 := hs6.trans (hs11.mono hs6.size)
                have hsz11 : w1.heap.size ≤ w11.heap.size := Nat.le_trans hsz6 hs11.size
                have hsL := hoL11.solid
                rw [hL.out] at hsL
                have hjL : j < L.length := by rw [hL.out]; omega
                have hps := Lib.hid (hoL11.rd.solid (by omega)).1
                clear hs10 hb11 hrR10 hr10 hk11 hC2
                go_wp2_with (refine wpl_store rfl _ _ _ rfl 3 tyN _ _ _ _ hoL11 j hjL _ ?_ rfl rfl ?_; omega; intro w12 ho12 hg12 hb12)
                rw [Int.toNat_natCast] at ho12
                have hz12 := hg12.size
                go_roundw
                case rel => exact ⟨j, R % b, _, p11, c11, rfl, rfl, by omega, (by show (List.set _ _ _).length = _; rw [List.length_set]; exact hL.out), hr11.written hg12 (fun h0 h1 => by have := hk12 h0; have := hp1l h1; omega) hps.out, hl11, hk12, ho12, hbw11.trans hb12, Nat.le_trans hsz11 hz12, HS⟩
                case measure => first | (simp [intOf]; done) | (simp [intOf]; omega)
              · have hC2 : 1 ≤ cmpN (b * d) R := by rw [cmpN_gt (by omega)]; omega
                have hd1 : qd ≤ d - 1 ∧ 1 ≤ d := by
                  have : qd ≠ d := by
                    intro h
                    have h1 := Nat.div_mul_le_self R b
                    rw [← HQD.out, h, Nat.mul_comm] at h1
                    exact hle h1
                  omega
                obtain ⟨hd3, hd4⟩ := hd1
                have ed : (d : Int) - 1 = ((d - 1 : Nat) : Int) := by omega
                clear hle
                go_wp2_with fail
                go_roundg (d - 1)
                case measure => omega
                case rel => exact ⟨d - 1, rfl, rfl, rfl, hd3, by omega, hs10⟩
    · obtain rfl : k = 0 := by omega
      obtain ⟨hv, hm⟩ := HR.out.1.done HA.out
      have HM := Lib.hid hm
      have HV := Lib.hid hv
      have HLB := Lib.hid HR.out.1.1
      clear hv hm
      go_wp2_with fail
      refine (refTrim_any p1 xs.length c1 L _ hoL.rd hL.out.symm (by rw [hL.out]; exact hL.out ▸ hoL.le_cap) HLB.out (by rw [hL.out]; omega)).mono ?_
      rintro e w3 ⟨rfl, rfl⟩
      rw [HV.out]
      go_wp2_with fail
      go_ret2
      have ht := take_dig_len B16_two L HLB.out
      have ho3 := hoL.take (dig B16 (val B16 L)).length
      rw [ht, HV.out] at ho3
      rw [← HM.out]
      exact ⟨p1, _, pr, _, rfl, ho3.rd, Nat.le_refl _, own_blk ho3, hrr, hrc, fun h => Nat.le_trans hsz1 (hrb h), hbL⟩

theorem refInto_all (p q : Option Addr) (n m c e0 : Nat) (a b : Nat) (w : World) (hp : Rd w .i64 p (dig B16 a)) (hq : Rd w .i64 q (dig B16 b)) (hn : n = (dig B16 a).length) (hm : m = (dig B16 b).length)
    (hl : (dig B16 a).length ≤ 100000000) (hl2 : (dig B16 b).length ≤ 100000000) (hb : 0 < b) :
    Calls Try.prog 19 #[.slice p n c, .slice q m e0] w (GivesR2 w .i64 (dig B16 (a / b)) (dig B16 (a % b))) := by
  by_cases h1 : (dig B16 b).length = 1
  · obtain ⟨h2, h3⟩ := dig_of_len_one B16_two h1
    rw [h1] at hm
    rw [dig_small B16_two h2 h3] at hq
    exact refInto_one p q n m c e0 a b w hp hq hn hm (by omega) h2 h3
  · have h0 : (dig B16 b).length ≠ 0 := by
      have := dig_len_zero B16_two b
      omega
    exact refInto_more p q n m c e0 a b ((dig B16 b).length - 2) w hp hq hn hm hl hl2 (by omega)

end Go.Proofs.Ytlegnbigddhmlaa
