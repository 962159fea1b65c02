/- limb.Div: long division. -/
import Derived.Test.YtlegnbigddhmlaaZLimb11
namespace Go.Proofs.Ytlegnbigddhmlaa
open Go.RowKit Go.Slip

set_option maxHeartbeats 2000000 in
set_option maxRecDepth 100000 in
theorem div_long (p q : Option Addr) (n m c d : Nat) (a b : Nat) (w : World) (hp : Rd w .u32 p (dig B32 a)) (hq : Rd w .u32 q (dig B32 b)) (hn : n = (dig B32 a).length) (hm : m = (dig B32 b).length)
    (hl : (dig B32 a).length ≤ 100000000) (h2 : 2 ≤ (dig B32 b).length) (hab : b ≤ a) :
    Calls Try.prog 27 #[.slice p n c, .slice q m d] w (Gives2 w 26 (dig B32 (a / b)) (dig B32 (a % b))) := by
  subst hn hm
  have hC : 0 ≤ cmpN a b := by unfold cmpN; rw [if_neg (by omega)]; split <;> omega
  have hlb := dig_len_mono B32_two hab
  have hb0 : 0 < b := by
    have := dig_len_zero B32_two b
    omega
  obtain ⟨bt, hbt⟩ : ∃ bt, bt = dg (dig B32 b) ((dig B32 b).length - 1) := ⟨_, rfl⟩
  have hbt1 : bt < 4294967296 := by rw [hbt]; exact getD_lt (B := 4294967296) (by omega) _ (dig_lt B32_two b) _
  have hbt2 : blen bt ≤ 32 := (blen_le bt 32).2 (by omega)
  have hbt3 : 1 ≤ blen bt := (blen_pos bt).2 (by rw [hbt]; exact (blen_dig (B := B32) (s := 32) (by decide) B32_two b hb0).2)
  obtain ⟨s, hs⟩ : ∃ s, s = 32 - blen bt := ⟨_, rfl⟩
  obtain ⟨nl, nt⟩ := norm_top hb0 (s := s) (by rw [← hbt]; omega)
  have hs32 : s < 32 := by omega
  have HS := Lib.hid hs
  have hcb := hq.cells ((dig B32 b).length - 1) (by omega)
  rw [← hbt] at hcb
  have t1 : (((dig B32 b).length : Int) == 1) = false := beq_eq_false_iff_ne.2 (by omega)
  have lu1 := dig_len_mono B32_two (show a ≤ a * 2 ^ s from Nat.le_mul_of_pos_right _ (Nat.pow_pos (by omega)))
  have lu2 : (dig B32 (a * 2 ^ s)).length ≤ (dig B32 a).length + 2 := by
    refine Nat.le_trans (dig_len_mul B32_two _ _) ?_
    have : (dig B32 (2 ^ s)).length ≤ 1 := (dig_len_le B32_two _ 1).2 (Nat.lt_of_lt_of_le (Nat.pow_lt_pow_right (by omega) hs32) (by decide))
    omega
  obtain ⟨ys, hys⟩ : ∃ ys, ys = dig B32 (b * 2 ^ s) := ⟨_, rfl⟩
  obtain ⟨us, hus⟩ : ∃ us, us = dig B32 (a * 2 ^ s) := ⟨_, rfl⟩
  obtain ⟨mm, hmm⟩ : ∃ mm, ys.length = mm + 2 := ⟨ys.length - 2, by rw [hys, nl]; omega⟩
  have HYD := Lib.hid (show ∀ x ∈ ys, x < B32 by rw [hys]; exact dig_lt B32_two _)
  have HYV := Lib.hid (show val B32 ys = b * 2 ^ s by rw [hys]; exact val_dig B32_two _)
  have hbig : 2147483648 ≤ dg ys (mm + 1) := by
    rw [hys, show mm + 1 = (dig B32 b).length - 1 by rw [← nl, ← hys, hmm]; omega]; exact nt
  rw [← hys] at nl
  rw [← hus] at lu1 lu2
  have hyl1 := Nat.le_of_eq nl
  have hyl2 := Nat.le_of_eq nl.symm
  have hU0 : DivRel (a * 2 ^ s) (val B32 ys) ys.length (us ++ [0]) (List.replicate (us.length + 1 - ys.length) 0) (us.length + 1 - ys.length) := by
    have := DivRel.start (A := a * 2 ^ s) (V := val B32 ys) (n := ys.length) (U := us ++ [0]) (fun x hx => by
      rcases List.mem_append.1 hx with h | h
      · rw [hus] at h; exact dig_lt B32_two _ x h
      · simp at h; rw [h]; exact B32_pos) (by simp; omega) (by omega) (by rw [val_snoc, hus, val_dig B32_two]; simp)
      (by simp; rw [hus]; exact (dig_len_le B32_two _ _).1 (Nat.le_refl _))
      (by rw [HYV.out, hys]; exact dig_len_pow B32_two _ (Nat.mul_pos hb0 (Nat.pow_pos (by omega))))
    simpa using this
  have HU0 := Lib.hid hU0
  have HYS := Lib.hid hys
  have HUS := Lib.hid hus
  have HMM := Lib.hid hmm
  obtain ⟨QL, hQL⟩ : ∃ QL, QL = us.length + 1 - ys.length := ⟨_, rfl⟩
  rw [← hQL] at HU0
  have q1 : QL + ys.length ≤ us.length + 1 := by omega
  have q2 : us.length + 1 ≤ QL + ys.length := by omega
  have y2 : 2 ≤ ys.length := by omega
  have HB0 := Lib.hid hb0
  have HBT := Lib.hid hbt
  clear hbt hs nl nt hU0 hys hus hmm hQL hb0
  go_enter Try.func27, Try.ntmps27
  go_wp2_with fail
  refine (cmp_any p q _ _ c d a b _ hp hq rfl rfl (by omega) (by omega)).mono ?_
  rintro e w1 ⟨rfl, hb1⟩
  have hp1 := hp.past hb1
  have hq1 := hq.past hb1
  have hsq := hq1.solid
  have hcb1 : w1.cell? (at_ q ((dig B32 b).length - 1)) = some (.int .u32 (bt : Nat)) := by
    have h := hq1.cells ((dig B32 b).length - 1) (by omega)
    rw [← HBT.out] at h; exact h
  go_wp2_with fail
  refine (lz32_any bt _ hbt1).mono ?_
  rintro e w2 ⟨rfl, rfl⟩
  rw [← HS.out]
  go_wp2_with fail
  refine (shl_any q _ d b s _ hq1 rfl (by omega) (by omega)).mono ?_
  rw [← HYS.out]
  rintro e w3 ⟨pv, cv, rfl, hov, hb3⟩
  have hs3 := hb1.trans (hb3.mono hb1.size)
  go_wp2_with fail
  refine (shl_any p _ c a s _ (hp1.past hb3) rfl (by omega) (by omega)).mono ?_
  rw [← HUS.out]
  rintro e w4 ⟨pu0, cu0, rfl, hou0, hb4⟩
  have hs4 := hs3.trans (hb4.mono hs3.size)
  go_wp2_with (first
    | (refine wpl_build1 rfl _ _ rfl tyNat 0 (by omega) rfl ?_; intro p5 w5 ho5 hb5 hz5 hp5)
    | (at_builtin; refine wpl_append rfl _ _ _ rfl tyNat w3.heap.size _ _ _ _ (hou0.past hb5) rfl _ _ _ _ ho5.rd rfl rfl rfl ?_ ?_ ?_; (simp; omega); (have := hb5.size; have := hb4.size; omega); intro pu cu w6 hou hg6 hb6 hn6))
  have hs5 := hs4.trans (hb5.mono hs4.size)
  have hs6 := hs5.trans (hb6.mono hs3.size)
  have hvl := hov.rd.lt (by omega)
  have hsz3 := hs3.size
  have hvr6 := ((hov.rd.past hb4).past hb5).below hb6 (fun _ => hvl)
  have hus6 := hou.solid
  rw [List.length_append, List.length_singleton] at hus6
  clear hb1 hb3 hb4 hb5 hb6 hs3 hs4 hs5 hp1 hq1 hcb hcb1 hsq t1 hn6 hg6 hou0 ho5 hz5 hp5
  go_loopw [10] (fun uv wr => uv = .slice pu (us.length + 1) cu ∧ w6 = wr) (fun _ _ => 0)
  case atStart => exact ⟨rfl, rfl⟩
  case round =>
    obtain ⟨rfl, rfl⟩ := hrel
    go_wp2_with (refine wpl_make rfl _ _ _ rfl tyNat .i64 .i64 QL _ _ rfl rfl ?_ ?_ ?_ ?_; omega; omega; omega; intro pq cq w7 hoq hb7 hz7)
    obtain ⟨top, htop⟩ : ∃ top, dg ys (ys.length - 1) = top := ⟨_, rfl⟩
    obtain ⟨nx, hnx⟩ : ∃ nx, dg ys (ys.length - 2) = nx := ⟨_, rfl⟩
    have hvr7 := hvr6.past hb7
    have hc1 := hvr7.cells (ys.length - 1) (by omega)
    have hc2 := hvr7.cells (ys.length - 2) (by omega)
    rw [htop] at hc1
    rw [hnx] at hc2
    have hvs := hvr7.solid
    have htop1 : top < 4294967296 := by rw [← htop]; exact getD_lt (B := 4294967296) (by omega) ys HYD.out _
    have hnx1 : nx < 4294967296 := by rw [← hnx]; exact getD_lt (B := 4294967296) (by omega) ys HYD.out _
    have htop2 : 2147483648 ≤ top := by rw [← htop, HMM.out]; exact hbig
    have HTOP := Lib.hid htop
    have HNX := Lib.hid hnx
    clear htop hnx hbig
    have b1 : (0 : Int) ≤ (ys.length : Int) - 1 := by omega
    have b2 : (ys.length : Int) - 1 < (ys.length : Int) := by omega
    have b3 : (0 : Int) ≤ (ys.length : Int) - 2 := by omega
    have b4 : (ys.length : Int) - 2 < (ys.length : Int) := by omega
    have e1 : IntKind.i64.wrap ((ys.length : Int) - 1) = (ys.length : Int) - 1 := IntWalk.i64_in _ (by omega)
    have e2 : IntKind.i64.wrap ((ys.length : Int) - 2) = (ys.length : Int) - 2 := IntWalk.i64_in _ (by omega)
    have e3 : ((ys.length : Int) - 1).toNat = ys.length - 1 := by omega
    have e4 : ((ys.length : Int) - 2).toNat = ys.length - 2 := by omega
    have e5 : IntKind.u64.wrap (top : Int) = (top : Int) := IntWalk.u64_in _ (by omega)
    have e6 : IntKind.u64.wrap (nx : Int) = (nx : Int) := IntWalk.u64_in _ (by omega)
    go_wp2_with fail
    go_quiet (fail)
    clear b1 b2 b3 b4 e1 e2 e3 e4 e5 e6 hc1 hc2
    have hsvu : w3.heap.size ≤ w6.heap.size := by
      have := hou.rd.lt (by simp)
      have := (hou.blk_lt (hou.rd.solid (by simp)).1).1
      omega
    have hou7 := hou.past hb7
    have hups := (hou.rd.solid (by simp)).1
    have hbu := hou.blk_lt hups
    have hvu : blk pv ≠ blk pu := by omega
    have hqu : pq.isSome = true → some (blk pq) ≠ some (blk pu) := fun h => by
      have := hoq.blk_lt h
      simp only [ne_eq, Option.some.injEq]; omega
    have hqv : pq.isSome = true → blk pq ≠ blk pv := fun h => by
      have := hoq.blk_lt h
      omega
    have HVU := Lib.hid hvu
    have HQU := Lib.hid hqu
    have HQV := Lib.hid hqv
    have HUPS := Lib.hid hups
    have hs7 := hs6.trans (hb7.mono hs6.size)
    have hsz6 := hs6.size
    clear hvu hqu hqv hups hbu hsvu
    have hcu := hou.le_cap
    rw [List.length_append, List.length_singleton] at hcu
    go_wp2_with fail
    go_loopw [15] (fun jv wr => ∃ (k : Nat) (U Q : List Nat), jv = .int .i64 ((k : Int) - 1) ∧ k ≤ QL ∧ Hid (U.length = us.length + 1) ∧ Hid (Q.length = QL) ∧ Own wr w3.heap.size .u32 26 pu cu U ∧
        Own wr w6.heap.size .u32 26 pq cq Q ∧ Below w.heap.size w wr ∧ Rd wr .u32 pv ys ∧ Hid (DivRel (a * 2 ^ s) (val B32 ys) ys.length U Q k))
      (fun jv _ => (intOf jv + 1).toNat)
    case atStart => exact ⟨QL, _, _, by go_num, Nat.le_refl _, (by show (us ++ [Int.toNat 0]).length = us.length + 1; simp), List.length_replicate, hou7.drewN _, hoq.drewN _, below_drewN hs7 _, hvr7.drewN _, HU0⟩
    case round =>
      obtain ⟨k, U, Q, rfl, hk, hUl, hQl, hoU, hoQ, hbL, hrv, HR⟩ := hrel
      by_cases h0 : 0 < k
      · obtain ⟨j, rfl⟩ : ∃ j, k = j + 1 := ⟨k - 1, by omega⟩
        have ej : ((j + 1 : Nat) : Int) - 1 = j := by omega
        rw [ej]
        have KN : Knuth ys U mm j := ⟨HYD.out, HR.out.dU, HMM.out, by rw [show mm + 1 = ys.length - 1 by rw [HMM.out]; omega, HTOP.out]; exact htop2, HR.out.win⟩
        have KN := Lib.hid KN
        obtain ⟨u2, hu2⟩ : ∃ u2, dg U (j + ys.length) = u2 := ⟨_, rfl⟩
        obtain ⟨u1, hu1⟩ : ∃ u1, dg U (j + ys.length - 1) = u1 := ⟨_, rfl⟩
        obtain ⟨u0, hu0⟩ : ∃ u0, dg U (j + ys.length - 2) = u0 := ⟨_, rfl⟩
        have hc2 := hoU.rd.cells (j + ys.length) (by rw [hUl.out]; omega)
        have hc1 := hoU.rd.cells (j + ys.length - 1) (by rw [hUl.out]; omega)
        have hc0 := hoU.rd.cells (j + ys.length - 2) (by rw [hUl.out]; omega)
        have hsU := hoU.solid
        rw [hUl.out] at hsU
        rw [hu2] at hc2
        rw [hu1] at hc1
        rw [hu0] at hc0
        have hu2l : u2 < 4294967296 := by rw [← hu2]; exact getD_lt (B := 4294967296) (by omega) U HR.out.dU _
        have hu1l : u1 < 4294967296 := by rw [← hu1]; exact getD_lt (B := 4294967296) (by omega) U HR.out.dU _
        have hu0l : u0 < 4294967296 := by rw [← hu0]; exact getD_lt (B := 4294967296) (by omega) U HR.out.dU _
        have HU2 := Lib.hid hu2
        have HU1 := Lib.hid hu1
        have HUZ := Lib.hid hu0
        clear hu2 hu1 hu0
        obtain ⟨two, htwo⟩ : ∃ two, two = u2 * 4294967296 + u1 := ⟨_, rfl⟩
        have HT0 : Hid (Trial ys U mm j (two / top) (two % top)) := by
          have := KN.out.start two (by rw [htwo, ← HU2.out, ← HU1.out, HMM.out]; rfl)
          rw [show mm + 1 = ys.length - 1 by rw [HMM.out]; omega, HTOP.out] at this
          exact this
        have HT0 := Lib.hid HT0.out
        have hor := or32 u2 u1 hu2l hu1l
        have etw : (u2 : Int) * 4294967296 + (u1 : Nat) = (two : Nat) := by omega
        rw [etw] at hor
        have htwl : two < 18446744073709551616 := by omega
        have HTW := Lib.hid htwo
        clear etw htwo
        have b0 : (0 : Int) ≤ (j : Int) + ys.length := by omega
        have b1 : (0 : Int) ≤ (j : Int) + ys.length - 1 := by omega
        have b2 : (j : Int) + ys.length < (us.length : Int) + 1 := by omega
        have b3 : (j : Int) + ys.length - 1 < (us.length : Int) + 1 := by omega
        have e1 : IntKind.i64.wrap ((j : Int) + ys.length) = (j : Int) + ys.length := IntWalk.i64_in _ (by omega)
        have e2 : IntKind.i64.wrap ((j : Int) + ys.length - 1) = (j : Int) + ys.length - 1 := IntWalk.i64_in _ (by omega)
        have e3 : ((j : Int) + ys.length).toNat = j + ys.length := by omega
        have e4 : ((j : Int) + ys.length - 1).toNat = j + ys.length - 1 := by omega
        have e5 : IntKind.u64.wrap (u2 : Int) = (u2 : Int) := IntWalk.u64_in _ (by omega)
        have e6 : IntKind.u64.wrap (u1 : Int) = (u1 : Int) := IntWalk.u64_in _ (by omega)
        have e7 : IntKind.u64.wrap ((u2 : Int) * 4294967296) = (u2 : Int) * 4294967296 := IntWalk.u64_in _ (by omega)
        go_wp2_with fail
        go_quiet (fail)
        obtain ⟨n1, rfl⟩ : ∃ n1, n1 = nq := ⟨_, rfl⟩
        go_wp2_with fail
        clear b0 b1 b2 b3 e1 e2 e3 e4 e5 e6 e7 hor
        obtain ⟨t0, ht0⟩ : ∃ t0, t0 = two / top := ⟨_, rfl⟩
        obtain ⟨r0, hr0⟩ : ∃ r0, r0 = two % top := ⟨_, rfl⟩
        rw [← ht0, ← hr0] at HT0
        have hr0l : r0 < 4294967296 := by rw [hr0]; exact Nat.lt_trans (Nat.mod_lt _ (by omega)) htop1
        have ht0l : t0 < 18446744073709551616 := by rw [ht0]; exact Nat.lt_of_le_of_lt (Nat.div_le_self _ _) htwl
        have e1 : (two : Int) / (top : Int) = (t0 : Nat) := by rw [ht0]; rfl
        have e2 : (two : Int).tmod (top : Int) = (r0 : Nat) := by rw [hr0, Int.tmod_eq_emod_of_nonneg (by omega)]; rfl
        have e3 : IntKind.u64.wrap (t0 : Int) = (t0 : Int) := IntWalk.u64_in _ (by omega)
        have e4 : ¬ top = 0 := by omega
        have e5 : IntKind.u64.wrap (r0 : Int) = (r0 : Int) := IntWalk.u64_in _ (by omega)
        clear ht0 hr0
        go_quiet (fail)
        clear e1 e2 e3 e4 e5
        have hoU8 := (hoU.drewN n1).drewN nq
        have hoQ8 := (hoQ.drewN n1).drewN nq
        have hrv8 := (hrv.drewN n1).drewN nq
        have hbL8 := below_drewN (below_drewN hbL n1) nq
        have hc8 := hoU8.rd.cells (j + ys.length - 2) (by rw [hUl.out]; omega)
        rw [HUZ.out] at hc8
        generalize (wr.drewN n1).drewN nq = w8 at *
        clear hc0 hc1 hc2 hoU hoQ hrv hbL
        have hju : j + ys.length + 1 ≤ us.length + 1 := by omega
        have hsQ := hoQ8.solid
        rw [hQl.out] at hsQ
        have hjc : j + ys.length + 1 ≤ cu := by omega
        clear ej
        have HXT : Hid (dg ys (mm + 1) = top) := by show dg ys (mm + 1) = top; rw [show mm + 1 = ys.length - 1 by rw [HMM.out]; omega]; exact HTOP.out
        have HXN : Hid (dg ys mm = nx) := by show dg ys mm = nx; rw [show mm = ys.length - 2 by rw [HMM.out]; omega]; exact HNX.out
        have HXU : Hid (dg U (j + mm) = u0) := by show dg U (j + mm) = u0; rw [show j + mm = j + ys.length - 2 by rw [HMM.out]; omega]; exact HUZ.out
        go_wp2_with fail
        go_loop [17, 18] (fun tv rv => ∃ (t r : Nat), tv = .int .u64 t ∧ rv = .int .u64 r ∧ r < 4294967296 ∧ t ≤ 4294967298 ∧ Hid (Trial ys U mm j t r)) (fun tv _ => (intOf tv).toNat)
        case atStart => exact ⟨t0, r0, rfl, rfl, hr0l, HT0.out.bound KN.out, HT0⟩
        case round =>
          obtain ⟨t, r, rfl, rfl, hrl, htl, HT⟩ := hrel
          by_cases hA : 4294967296 ≤ t
          · obtain ⟨hd1, hd2⟩ := HT.out.down KN.out (.inl hA)
            obtain ⟨u, rfl⟩ : ∃ u, t = u + 1 := ⟨t - 1, by omega⟩
            rw [HXT.out, Nat.add_sub_cancel] at hd2
            have HT' := Lib.hid hd2
            have dA : decide ((4294967296 : Int) ≤ (u : Int) + 1) = true := decide_eq_true (by omega)
            clear hd2 hA
            by_cases hbk : 4294967296 ≤ r + top
            · obtain ⟨ht1, ht2⟩ := HT'.out.breaks KN.out hbk
              have HTE := Lib.hid (HT'.out.exit KN.out ht1 ht2)
              have ht1 : u < 4294967296 := ht1
              have dB : decide ((4294967296 : Int) ≤ (r : Int) + (top : Int)) = true := decide_eq_true (by omega)
              clear hbk
              go_wp2_with fail
              ((with_reducible refine (less_any pu _ pv cu _ _ _ _ U ys j u w3.heap.size _ hoU8 hrv8 rfl rfl ?_ ?_ ?_ ?_ ?_ ?_ ?_ ?_).mono ?_))
              · omega
              · rw [hUl.out]; omega
              · exact HR.out.dU
              · exact HYD.out
              · exact ht1
              · exact fun _ _ => HVU.out.symm
              · exact HUPS.out
              · rw [hUl.out]; omega
              rintro e w9 ⟨L, br, hbr, rfl, hoL, hgL, hbL9, HW, HV⟩
              have HW := Lib.hid HW
              have HV := Lib.hid HV
              have hoQ9 := hoQ8.grown hgL HQU.out
              have hrv9 := hrv8.written hgL (fun _ _ => HVU.out.symm) HUPS.out
              have hb9 := hbL8.trans (hbL9.mono hsz3)
              have hjQ : j < Q.length := by rw [hQl.out]; omega
              have hqs := Lib.hid (hoQ9.rd.solid (by omega)).1
              have hLl := Lib.hid (show L.length = us.length + 1 by rw [HW.out.2.1]; exact hUl.out)
              rcases (show br = 0 ∨ br = 1 by omega) with rfl | rfl
              · have HS := Lib.hid (HR.out.even' KN.out HT'.out hjQ ht1 HW.out HV.out)
                go_wp2_with (refine wpl_store rfl _ _ _ rfl 26 tyNat _ _ _ _ hoQ9 j hjQ _ ?_ rfl rfl ?_; omega; intro w10 ho10 hg10 hb10)
                rw [Int.toNat_natCast] at ho10
                go_roundw
                case rel => exact ⟨j, L, _, rfl, by omega, hLl, (by show (List.set _ _ _).length = _; rw [List.length_set]; exact hQl.out), hoL.grown hg10 (fun _ => (HQU.out hqs.out).symm), ho10, hb9.trans (hb10.mono hsz6), hrv9.written hg10 (fun _ h => HQV.out h) hqs.out, HS⟩
                case measure => first | (simp [intOf]; done) | (simp [intOf]; omega)
              · have htp : 0 < u := owed_pos KN.out HW.out HV.out
                obtain ⟨v, rfl⟩ : ∃ v, u = v + 1 := ⟨u - 1, by omega⟩
                go_wp2_with fail
                ((with_reducible refine (more_any pu _ pv cu _ _ _ _ L ys j w3.heap.size _ hoL hrv9 rfl rfl ?_ ?_ ?_ ?_ ?_ ?_ ?_).mono ?_))
                · omega
                · rw [hLl.out]; omega
                · exact HW.out.1
                · exact HYD.out
                · exact fun _ _ => HVU.out.symm
                · exact HUPS.out
                · rw [hLl.out]; omega
                rintro e w10 ⟨M, co, rfl, hoM, hgM, hbM, HW2, HV2⟩
                obtain ⟨_, HS⟩ := HR.out.owed' KN.out HT'.out HTE.out hjQ ht1 HW.out HV.out HW2 HV2
                rw [Nat.add_sub_cancel] at HS
                have HS := Lib.hid HS
                have hMl := Lib.hid (show M.length = us.length + 1 by rw [HW2.2.1]; exact hLl.out)
                have hoQ10 := hoQ9.grown hgM HQU.out
                have hrv10 := hrv9.written hgM (fun _ _ => HVU.out.symm) HUPS.out
                have hb10 := hb9.trans (hbM.mono hsz3)
                clear HW2 HV2
                go_wp2_with (refine wpl_store rfl _ _ _ rfl 26 tyNat _ _ _ _ hoQ10 j hjQ _ ?_ rfl rfl ?_; omega; intro w11 ho11 hg11 hb11)
                rw [Int.toNat_natCast] at ho11
                go_roundw
                case rel => exact ⟨j, M, _, rfl, by omega, hMl, (by show (List.set _ _ _).length = _; rw [List.length_set]; exact hQl.out), hoM.grown hg11 (fun _ => (HQU.out hqs.out).symm), ho11, hb10.trans (hb11.mono hsz6), hrv10.written hg11 (fun _ h => HQV.out h) hqs.out, HS⟩
                case measure => first | (simp [intOf]; done) | (simp [intOf]; omega)
            · have dB : decide ((4294967296 : Int) ≤ (r : Int) + (top : Int)) = false := decide_eq_false (by omega)
              have hbk' : r + top < 4294967296 := by omega
              clear hbk
              go_wp2_with fail
              go_round
              case rel => exact ⟨u, r + top, by go_num, by go_num, by omega, by omega, HT'⟩
              case measure => first | (simp [intOf]; done) | (simp [intOf]; omega)
          · have htlt : t < 4294967296 := by omega
            obtain ⟨tn, htn⟩ : ∃ tn, tn = t * nx := ⟨_, rfl⟩
            obtain ⟨rr, hrr⟩ : ∃ rr, rr = r * 4294967296 + u0 := ⟨_, rfl⟩
            have etn : (t : Int) * (nx : Int) = (tn : Nat) := by rw [htn]; simp
            obtain ⟨hpr, hpr0⟩ := prod_le htlt hnx1
            rw [etn] at hpr hpr0
            have hor := or32 r u0 hrl hu0l
            have etw : (r : Int) * 4294967296 + (u0 : Nat) = (rr : Nat) := by omega
            rw [etw] at hor
            have dA : decide ((4294967296 : Int) ≤ (t : Int)) = false := decide_eq_false (by omega)
            have HTL := Lib.hid htlt
            clear etw hA htlt
            by_cases hB : rr < tn
            · obtain ⟨hd1, hd2⟩ := HT.out.down KN.out (.inr (by rw [HXN.out, HXU.out, ← htn]; show r * 4294967296 + u0 < tn; omega))
              rw [HXT.out] at hd2
              obtain ⟨u, hu⟩ : ∃ u, u = t - 1 := ⟨_, rfl⟩
              rw [← hu] at hd2
              have HT' := Lib.hid hd2
              have e6 : (t : Int) - 1 = (u : Int) := by omega
              have hut : u < t := by omega
              clear hd2 htn hrr hu
              by_cases hbk : 4294967296 ≤ r + top
              · obtain ⟨ht1, ht2⟩ := HT'.out.breaks KN.out hbk
                have HTE := Lib.hid (HT'.out.exit KN.out ht1 ht2)
                have ht1 : u < 4294967296 := ht1
                have dB : decide ((4294967296 : Int) ≤ (r : Int) + (top : Int)) = true := decide_eq_true (by omega)
                clear hbk
                go_wp2_with fail
                ((with_reducible refine (less_any pu _ pv cu _ _ _ _ U ys j u w3.heap.size _ hoU8 hrv8 rfl rfl ?_ ?_ ?_ ?_ ?_ ?_ ?_ ?_).mono ?_))
                · omega
                · rw [hUl.out]; omega
                · exact HR.out.dU
                · exact HYD.out
                · exact ht1
                · exact fun _ _ => HVU.out.symm
                · exact HUPS.out
                · rw [hUl.out]; omega
                rintro e w9 ⟨L, br, hbr, rfl, hoL, hgL, hbL9, HW, HV⟩
                have HW := Lib.hid HW
                have HV := Lib.hid HV
                have hoQ9 := hoQ8.grown hgL HQU.out
                have hrv9 := hrv8.written hgL (fun _ _ => HVU.out.symm) HUPS.out
                have hb9 := hbL8.trans (hbL9.mono hsz3)
                have hjQ : j < Q.length := by rw [hQl.out]; omega
                have hqs := Lib.hid (hoQ9.rd.solid (by omega)).1
                have hLl := Lib.hid (show L.length = us.length + 1 by rw [HW.out.2.1]; exact hUl.out)
                rcases (show br = 0 ∨ br = 1 by omega) with rfl | rfl
                · have HS := Lib.hid (HR.out.even' KN.out HT'.out hjQ ht1 HW.out HV.out)
                  go_wp2_with (refine wpl_store rfl _ _ _ rfl 26 tyNat _ _ _ _ hoQ9 j hjQ _ ?_ rfl rfl ?_; omega; intro w10 ho10 hg10 hb10)
                  rw [Int.toNat_natCast] at ho10
                  go_roundw
                  case rel => exact ⟨j, L, _, rfl, by omega, hLl, (by show (List.set _ _ _).length = _; rw [List.length_set]; exact hQl.out), hoL.grown hg10 (fun _ => (HQU.out hqs.out).symm), ho10, hb9.trans (hb10.mono hsz6), hrv9.written hg10 (fun _ h => HQV.out h) hqs.out, HS⟩
                  case measure => first | (simp [intOf]; done) | (simp [intOf]; omega)
                · have htp : 0 < u := owed_pos KN.out HW.out HV.out
                  obtain ⟨v, rfl⟩ : ∃ v, u = v + 1 := ⟨u - 1, by omega⟩
                  go_wp2_with fail
                  ((with_reducible refine (more_any pu _ pv cu _ _ _ _ L ys j w3.heap.size _ hoL hrv9 rfl rfl ?_ ?_ ?_ ?_ ?_ ?_ ?_).mono ?_))
                  · omega
                  · rw [hLl.out]; omega
                  · exact HW.out.1
                  · exact HYD.out
                  · exact fun _ _ => HVU.out.symm
                  · exact HUPS.out
                  · rw [hLl.out]; omega
                  rintro e w10 ⟨M, co, rfl, hoM, hgM, hbM, HW2, HV2⟩
                  obtain ⟨_, HS⟩ := HR.out.owed' KN.out HT'.out HTE.out hjQ ht1 HW.out HV.out HW2 HV2
                  rw [Nat.add_sub_cancel] at HS
                  have HS := Lib.hid HS
                  have hMl := Lib.hid (show M.length = us.length + 1 by rw [HW2.2.1]; exact hLl.out)
                  have hoQ10 := hoQ9.grown hgM HQU.out
                  have hrv10 := hrv9.written hgM (fun _ _ => HVU.out.symm) HUPS.out
                  have hb10 := hb9.trans (hbM.mono hsz3)
                  clear HW2 HV2
                  go_wp2_with (refine wpl_store rfl _ _ _ rfl 26 tyNat _ _ _ _ hoQ10 j hjQ _ ?_ rfl rfl ?_; omega; intro w11 ho11 hg11 hb11)
                  rw [Int.toNat_natCast] at ho11
                  go_roundw
                  case rel => exact ⟨j, M, _, rfl, by omega, hMl, (by show (List.set _ _ _).length = _; rw [List.length_set]; exact hQl.out), hoM.grown hg11 (fun _ => (HQU.out hqs.out).symm), ho11, hb10.trans (hb11.mono hsz6), hrv10.written hg11 (fun _ h => HQV.out h) hqs.out, HS⟩
                  case measure => first | (simp [intOf]; done) | (simp [intOf]; omega)
              · have dB : decide ((4294967296 : Int) ≤ (r : Int) + (top : Int)) = false := decide_eq_false (by omega)
                have hbk' : r + top < 4294967296 := by omega
                clear hbk
                go_wp2_with fail
                go_round
                case rel => exact ⟨u, r + top, by go_num, by go_num, by omega, by omega, HT'⟩
                case measure => first | (simp [intOf]; done) | (simp [intOf]; omega)
            · have HTE := Lib.hid (HT.out.exit KN.out HTL.out (by rw [HXN.out, HXU.out, ← htn]; show tn ≤ r * 4294967296 + u0; omega))
              have em : (t : Int) % 4294967296 = (t : Int) := by have := HTL.out; omega
              clear htn hrr
              have ht1 := HTL.out
              have ht1 := Lib.hid ht1
              go_wp2_with fail
              have ht1 := ht1.out
              clear em dA hor etn
              ((with_reducible refine (less_any pu _ pv cu _ _ _ _ U ys j t w3.heap.size _ hoU8 hrv8 rfl rfl ?_ ?_ ?_ ?_ ?_ ?_ ?_ ?_).mono ?_))
              · omega
              · rw [hUl.out]; omega
              · exact HR.out.dU
              · exact HYD.out
              · exact ht1
              · exact fun _ _ => HVU.out.symm
              · exact HUPS.out
              · rw [hUl.out]; omega
              rintro e w9 ⟨L, br, hbr, rfl, hoL, hgL, hbL9, HW, HV⟩
              have HW := Lib.hid HW
              have HV := Lib.hid HV
              have hoQ9 := hoQ8.grown hgL HQU.out
              have hrv9 := hrv8.written hgL (fun _ _ => HVU.out.symm) HUPS.out
              have hb9 := hbL8.trans (hbL9.mono hsz3)
              have hjQ : j < Q.length := by rw [hQl.out]; omega
              have hqs := Lib.hid (hoQ9.rd.solid (by omega)).1
              have hLl := Lib.hid (show L.length = us.length + 1 by rw [HW.out.2.1]; exact hUl.out)
              rcases (show br = 0 ∨ br = 1 by omega) with rfl | rfl
              · have HS := Lib.hid (HR.out.even' KN.out HT.out hjQ ht1 HW.out HV.out)
                go_wp2_with (refine wpl_store rfl _ _ _ rfl 26 tyNat _ _ _ _ hoQ9 j hjQ _ ?_ rfl rfl ?_; omega; intro w10 ho10 hg10 hb10)
                rw [Int.toNat_natCast] at ho10
                go_roundw
                case rel => exact ⟨j, L, _, rfl, by omega, hLl, (by show (List.set _ _ _).length = _; rw [List.length_set]; exact hQl.out), hoL.grown hg10 (fun _ => (HQU.out hqs.out).symm), ho10, hb9.trans (hb10.mono hsz6), hrv9.written hg10 (fun _ h => HQV.out h) hqs.out, HS⟩
                case measure => first | (simp [intOf]; done) | (simp [intOf]; omega)
              · have htp : 0 < t := owed_pos KN.out HW.out HV.out
                obtain ⟨v, rfl⟩ : ∃ v, t = v + 1 := ⟨t - 1, by omega⟩
                go_wp2_with fail
                ((with_reducible refine (more_any pu _ pv cu _ _ _ _ L ys j w3.heap.size _ hoL hrv9 rfl rfl ?_ ?_ ?_ ?_ ?_ ?_ ?_).mono ?_))
                · omega
                · rw [hLl.out]; omega
                · exact HW.out.1
                · exact HYD.out
                · exact fun _ _ => HVU.out.symm
                · exact HUPS.out
                · rw [hLl.out]; omega
                rintro e w10 ⟨M, co, rfl, hoM, hgM, hbM, HW2, HV2⟩
                obtain ⟨_, HS⟩ := HR.out.owed' KN.out HT.out HTE.out hjQ ht1 HW.out HV.out HW2 HV2
                rw [Nat.add_sub_cancel] at HS
                have HS := Lib.hid HS
                have hMl := Lib.hid (show M.length = us.length + 1 by rw [HW2.2.1]; exact hLl.out)
                have hoQ10 := hoQ9.grown hgM HQU.out
                have hrv10 := hrv9.written hgM (fun _ _ => HVU.out.symm) HUPS.out
                have hb10 := hb9.trans (hbM.mono hsz3)
                clear HW2 HV2
                go_wp2_with (refine wpl_store rfl _ _ _ rfl 26 tyNat _ _ _ _ hoQ10 j hjQ _ ?_ rfl rfl ?_; omega; intro w11 ho11 hg11 hb11)
                rw [Int.toNat_natCast] at ho11
                go_roundw
                case rel => exact ⟨j, M, _, rfl, by omega, hMl, (by show (List.set _ _ _).length = _; rw [List.length_set]; exact hQl.out), hoM.grown hg11 (fun _ => (HQU.out hqs.out).symm), ho11, hb10.trans (hb11.mono hsz6), hrv10.written hg11 (fun _ h => HQV.out h) hqs.out, HS⟩
                case measure => first | (simp [intOf]; done) | (simp [intOf]; omega)
      · obtain rfl : k = 0 := by omega
        obtain ⟨hd1, hd2⟩ := HR.out.done
        rw [HYV.out, Nat.mul_div_mul_right _ _ (Nat.pow_pos (by omega))] at hd1
        rw [HYV.out, Nat.mul_mod_mul_right] at hd2
        have HD1 := Lib.hid hd1
        have HD2 := Lib.hid hd2
        have HM := Lib.hid (show a % b * 2 ^ s / 2 ^ s = a % b from Nat.mul_div_cancel _ (Nat.pow_pos (by omega)))
        have hTQ := hoQ.take (dig B32 (val B32 Q)).length
        rw [take_dig_len B32_two Q HR.out.dQ, hd1] at hTQ
        have hTU := hoU.take (dig B32 (val B32 U)).length
        rw [take_dig_len B32_two U HR.out.dU, hd2] at hTU
        have hlU := dig_val_le B32_two U HR.out.dU
        rw [hd2, hUl.out] at hlU
        clear hd1 hd2
        go_wp2_with fail
        refine (norm_any pq QL cq Q _ hoQ.rd hQl.out.symm hoQ.le_cap HR.out.dQ (by rw [hQl.out]; omega)).mono ?_
        rintro e w9 ⟨rfl, rfl⟩
        rw [HD1.out]
        go_wp2_with fail
        refine (norm_any pu (us.length + 1) cu U _ hoU.rd hUl.out.symm hoU.le_cap HR.out.dU (by rw [hUl.out]; omega)).mono ?_
        rintro e w10 ⟨rfl, rfl⟩
        rw [HD2.out]
        go_wp2_with fail
        refine (shr_any pu _ cu (a % b * 2 ^ s) s _ hTU.rd rfl hTU.le_cap (by omega) (by omega)).mono ?_
        rw [HM.out]
        rintro e w11 ⟨p9, c9, rfl, ho9, hb9⟩
        go_wp2_with fail
        go_ret2
        exact ⟨pq, cq, p9, c9, rfl, (hTQ.past hb9).mono hsz6, ho9.mono hbL.size, hbL.trans (hb9.mono hbL.size), fun h1 h2 => by have := (hTQ.blk_lt h1).2; have := (ho9.blk_lt h2).1; omega⟩

theorem limbDiv_any (p q : Option Addr) (n m c d : Nat) (a b : Nat) (w : World) (hp : Rd w .u32 p (dig B32 a)) (hq : Rd w .u32 q (dig B32 b)) (hn : n = (dig B32 a).length) (hm : m = (dig B32 b).length)
    (hl : (dig B32 a).length ≤ 100000000) (hl2 : (dig B32 b).length ≤ 100000000) (hb : 0 < b) :
    Calls Try.prog 27 #[.slice p n c, .slice q m d] w (Gives2 w 26 (dig B32 (a / b)) (dig B32 (a % b))) := by
  by_cases hab : a < b
  · rw [Nat.div_eq_of_lt hab, Nat.mod_eq_of_lt hab, dig_zero]
    exact div_less p q n m c d a b w hp hq hn hm (by omega) (by omega) hab
  · by_cases h1 : (dig B32 b).length = 1
    · have h2 := (dig_len_le B32_two b 1).1 (by omega)
      rw [Nat.pow_one] at h2
      have eb : dig B32 b = [b] := by rw [dig_pos B32_two hb, Nat.div_eq_of_lt h2, dig_zero, Nat.mod_eq_of_lt h2]
      rw [h1] at hm
      rw [eb] at hq
      exact div_small p q n m c d a b w hp hq hn hm (by omega) hb h2 (by omega)
    · have h0 : (dig B32 b).length ≠ 0 := by
        have := dig_len_zero B32_two b
        omega
      exact div_long p q n m c d a b w hp hq hn hm hl (by omega) (by omega)

end Go.Proofs.Ytlegnbigddhmlaa
