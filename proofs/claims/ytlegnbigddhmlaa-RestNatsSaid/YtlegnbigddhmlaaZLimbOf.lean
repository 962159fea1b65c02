/- limb.Of. -/
import Derived.Test.YtlegnbigddhmlaaZC
namespace Go.Proofs.Ytlegnbigddhmlaa
open Go.RowKit Go.Slip

def OfRel32 (O : List Nat) (u N : Nat) : Prop := O ++ dig B32 u = dig B32 N

theorem OfRel32.len {O : List Nat} {u N : Nat} (h : OfRel32 O u N) : O.length ≤ (dig B32 N).length := by
  have := congrArg List.length h
  simp at this; omega

theorem OfRel32.step {O : List Nat} {u N : Nat} (h : OfRel32 O u N) (h0 : 0 < u) : OfRel32 (O ++ [u % 4294967296]) (u / 4294967296) N := by
  unfold OfRel32 at *
  rw [dig_pos B32_two h0] at h
  rw [← h]
  simp [B32]

set_option maxHeartbeats 1000000 in
theorem of_any (N : Nat) (w : World) (hN : N < 9223372036854775808) : Calls Try.prog 47 #[.int .i64 N] w (Gives w .u32 26 (dig B32 N)) := by
  have hl : (dig B32 N).length ≤ 2 := (dig_len_le B32_two N 2).2 (by unfold B32; omega)
  go_enter Try.func47, Try.ntmps47
  go_wp2
  go_loopw [3, 4] (fun av uv wr => ∃ (u : Nat) (t : Option Addr) (e : Nat) (O : List Nat), uv = .int .u64 u ∧ av = .slice t O.length e ∧ u ≤ N ∧ Own wr w.heap.size .u32 26 t e O ∧ Below w.heap.size w wr ∧ Hid (OfRel32 O u N))
    (fun _ uv _ => (intOf uv).toNat)
  case atStart => exact ⟨N, none, 0, [], by go_num, rfl, Nat.le_refl _, Own.nil _ _ _ _, Below.refl _ _, (show OfRel32 [] N N from rfl)⟩
  case round =>
    obtain ⟨u, t, e, O, rfl, rfl, hu, hoO, hb, HR⟩ := hrel
    have hOl : O.length ≤ 2 := Nat.le_trans HR.out.len hl
    by_cases h0 : 0 < u
    · have HS := Lib.hid (HR.out.step h0)
      go_wp2_with (first
        | (refine wpl_build1 rfl _ _ rfl tyNat _ ?_ rfl ?_; omega; intro p2 w2 ho2 hb2 hz2 hp2)
        | (at_builtin; refine wpl_append rfl _ _ _ rfl tyNat _ _ _ _ _ (hoO.past hb2) rfl _ _ _ _ ho2.rd rfl rfl rfl ?_ ?_ ?_; (simp; omega); (have := hb2.size; have := hb.size; omega); intro p3 c3 w3 ho3 hg3 hb3 hn3))
      have e4 : ((u : Int) % 4294967296).toNat = u % 4294967296 := by omega
      rw [e4] at ho3
      have hb4 := hb.trans ((hb2.mono hb.size).trans hb3)
      go_roundw
      case rel => exact ⟨u / 4294967296, p3, c3, _, by go_num, by simp, by omega, ho3, hb4, HS⟩
      case measure => simp [intOf]; omega
    · obtain rfl : u = 0 := by omega
      go_wp2
      go_ret
      have := HR.out
      unfold OfRel32 at this
      rw [dig_zero, List.append_nil] at this
      rw [← this]
      exact ⟨t, e, rfl, hoO, hb⟩

end Go.Proofs.Ytlegnbigddhmlaa
