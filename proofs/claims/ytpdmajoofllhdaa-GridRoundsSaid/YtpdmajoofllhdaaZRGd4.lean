/- references: RoundTo, whatever the ratio; SamePlace. -/
import Derived.Test.YtpdmajoofllhdaaZRGd3
namespace Go.Proofs.Ytpdmajoofllhdaa
open Go.RowKit Go.Slip

set_option maxHeartbeats 1000000 in
theorem refRoundTo_any (ng : Bool) (p q : Option Addr) (c d : Nat) (num den : Nat) (e : Int) (g : Gd) (way : Int) (w : World) (hp : Rd w .i64 p (dig B16 num)) (hq : Rd w .i64 q (dig B16 den))
    (hl : (dig B16 num).length ≤ 20000) (hl2 : (dig B16 den).length ≤ 20000) (hd : 0 < den) (he : -200000 ≤ e ∧ e ≤ 200000) (G : GoodG g) (hw1 : 1 ≤ way) (hw2 : way ≤ 5) :
    Calls Try.prog 11 #[.agg #[.bool ng, .slice p (dig B16 num).length c, .slice q (dig B16 den).length d, .int .i64 e], .agg #[.int .i64 g.rad, .int .i64 g.digs, .int .i64 g.lo, .int .i64 g.hi, .bool g.grad], .int .i64 way] w (GivesRP w (roundP ng num den e g way)) := by
  by_cases hn : num = 0
  · subst hn
    have h := refRoundTo_zero ng p q c d (dig B16 den).length e g way w
    unfold roundP
    rw [if_pos rfl, dig_zero]
    exact h
  · unfold roundP
    rw [if_neg hn]
    have wp := wid_pos g
    have hd1 := G.d1
    exact refRoundTo_pos ng p q c d num den e g way _ w hp hq hl hl2 (by omega) hd he G hw1 hw2 (theK_is (by omega) hd e (by omega) (by omega))

set_option maxHeartbeats 4000000 in
set_option maxRecDepth 100000 in
theorem refSamePlace_any (ng xb ov un : Bool) (k : Int) (n : Nat) (p q : Option Addr) (c d : Nat) (w : World) (hp : Rd w .u32 p (dig B32 n)) (hq : Rd w .i64 q (dig B16 n)) (hl : (dig B32 n).length ≤ 1000000) (hl2 : (dig B16 n).length ≤ 1000000) :
    Calls Try.prog 13 #[.agg #[.bool ng, .slice p (dig B32 n).length c, .int .i64 k, .bool xb, .bool ov, .bool un], .agg #[.bool ng, .slice q (dig B16 n).length d, .int .i64 k, .bool xb, .bool ov, .bool un]] w
      fun e w' => e = .returned (.bool true) ∧ Below w.heap.size w w' := by
  have t1 : (ng == ng) = true := by simp
  have t2 : (xb == xb) = true := by simp
  have t3 : (ov == ov) = true := by simp
  have t4 : (un == un) = true := by simp
  have t5 : (k == k) = true := by simp
  go_enter Try.func13, Try.ntmps13
  go_wp2_with fail
  refine wp_lay2 (fun W1 hb1 hz1 A B => ?_)
  replace hp := hp.past hb1
  replace hq := hq.past hb1
  have hs1 := hb1
  go_region_held3 (fun w' => (w'.cell? ⟨w.heap.size, 0, none⟩ = some (.bool ng) ∧ w'.cell? ⟨w.heap.size, 1, none⟩ = some (.slice p (dig B32 n).length c) ∧ w'.cell? ⟨w.heap.size, 2, none⟩ = some (.int .i64 k) ∧ w'.cell? ⟨w.heap.size, 3, none⟩ = some (.bool xb) ∧ w'.cell? ⟨w.heap.size, 4, none⟩ = some (.bool ov) ∧ w'.cell? ⟨w.heap.size, 5, none⟩ = some (.bool un)) ∧
      (w'.cell? ⟨w.heap.size + 1, 0, none⟩ = some (.bool ng) ∧ w'.cell? ⟨w.heap.size + 1, 1, none⟩ = some (.slice q (dig B16 n).length d) ∧ w'.cell? ⟨w.heap.size + 1, 2, none⟩ = some (.int .i64 k) ∧ w'.cell? ⟨w.heap.size + 1, 3, none⟩ = some (.bool xb) ∧ w'.cell? ⟨w.heap.size + 1, 4, none⟩ = some (.bool ov) ∧ w'.cell? ⟨w.heap.size + 1, 5, none⟩ = some (.bool un)))
    (first | with_reducible exact ⟨A.e6, B.e6⟩ | with_reducible exact ⟨A.drew.e6, B.drew.e6⟩ | with_reducible exact ⟨(A.drew.past hbx).e6, (B.drew.past hbx).e6⟩ | with_reducible exact ⟨((A.drew.past hbx).past hby).e6, ((B.drew.past hbx).past hby).e6⟩)
    (first
      | (go_at_call 30; refine (refTo_any q _ d n _ _ rfl hq.drew rfl (by omega)).mono ?_; rintro ex wx ⟨px, cx, rfl, hox, hbx⟩)
      | (go_at_call 14; refine (refSameNat_any p px _ c _ cx _ _ _ (hp.drew.past hbx) hox.rd rfl rfl rfl (by omega)).mono ?_; rintro ey wy ⟨rfl, hby⟩))
  all_goals (go_wp2_with fail)
  all_goals go_ret
  all_goals (exact ⟨rfl, (hs1.drew.trans (hbx.mono (by have := hs1.size; exact this))).trans (hby.mono (Nat.le_trans (by have := hs1.size; exact this) hbx.size))⟩)

end Go.Proofs.Ytpdmajoofllhdaa
