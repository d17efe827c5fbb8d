/- The law AuditAsks, walked (printed by gen20c.py). -/
import Derived.Test.YtplgodfhhlnojaaAudT
import Derived.Test.YtplgodfhhlnojaaAudR2
import Derived.Outline
set_option linter.unusedSimpArgs false
set_option linter.unusedVariables false
namespace Go.Proofs.Ytplgodfhhlnojaa
open Go.RowKit
set_option maxRecDepth 100000 in
set_option maxHeartbeats 4000000 in
theorem auasks_walk (x : W7) (s : S11) (q : Q4) (w : World) : Calls Try.prog 10 #[x.val, s.val, q.val] w fun e w' => e = .returned (.bool true) ∧ Below w.heap.size w w' := by
  obtain ⟨b, c, d, m0, m1, m2, p⟩ := x
  obtain ⟨⟨b', c', d', n0, n1, n2, p'⟩, ph, st, re, si⟩ := s
  obtain ⟨⟨es0, eu0, et0, ec0, ea0⟩, ⟨es1, eu1, et1, ec1, ea1⟩, ⟨es2, eu2, et2, ec2, ea2⟩, ⟨es3, eu3, et3, ec3, ea3⟩⟩ := q
  obtain ⟨rB, hB⟩ : ∃ v, decide (BookedP ⟨b, c, d, m0, m1, m2, p⟩ ⟨⟨es0, eu0, et0, ec0, ea0⟩, ⟨es1, eu1, et1, ec1, ea1⟩, ⟨es2, eu2, et2, ec2, ea2⟩, ⟨es3, eu3, et3, ec3, ea3⟩⟩) = v := ⟨_, rfl⟩
  obtain ⟨rN, hN⟩ : ∃ v, decide (NothingP ⟨⟨es0, eu0, et0, ec0, ea0⟩, ⟨es1, eu1, et1, ec1, ea1⟩, ⟨es2, eu2, et2, ec2, ea2⟩, ⟨es3, eu3, et3, ec3, ea3⟩⟩) = v := ⟨_, rfl⟩
  obtain ⟨rR, hR⟩ : ∃ v, decide (RightP ⟨⟨b', c', d', n0, n1, n2, p'⟩, ph, st, re, si⟩ ⟨⟨es0, eu0, et0, ec0, ea0⟩, ⟨es1, eu1, et1, ec1, ea1⟩, ⟨es2, eu2, et2, ec2, ea2⟩, ⟨es3, eu3, et3, ec3, ea3⟩⟩) = v := ⟨_, rfl⟩
  have HB1 := Lib.hid (fun W => booked_is hB W)
  have HB2 := Lib.hid (fun W => rbooked_is hB W)
  have HN1 := Lib.hid (fun W => nothing_is hN W)
  have HN2 := Lib.hid (fun W => rnothing_is hN W)
  have HR1 := Lib.hid (fun W => right_is hR W)
  have HR2 := Lib.hid (fun W => rright_is hR W)
  have T0 := Lib.hid told20
  clear hB hN hR
  simp only [W7.val, S11.val, Q4.val] at HB1 HB2 HN1 HN2 HR1 HR2
  unfold W7.val S11.val Q4.val
  simp only
  obtain ⟨f1, f2, f3, f4⟩ := three_boxes w (.cells #[.int .i64 b, .int .i64 c, .int .i64 d, .int .i64 m0, .int .i64 m1, .int .i64 m2, .int .i64 p] 24) (.cells #[.int .i64 b', .int .i64 c', .int .i64 d', .int .i64 n0, .int .i64 n1, .int .i64 n2, .int .i64 p', .int .i64 ph, .int .i64 st, .int .i64 re, .int .i64 si] 26) (.cells #[.int .i64 es0, .int .i64 eu0, .int .i64 et0, .int .i64 ec0, .int .i64 ea0, .int .i64 es1, .int .i64 eu1, .int .i64 et1, .int .i64 ec1, .int .i64 ea1, .int .i64 es2, .int .i64 eu2, .int .i64 et2, .int .i64 ec2, .int .i64 ea2, .int .i64 es3, .int .i64 eu3, .int .i64 et3, .int .i64 ec3, .int .i64 ea3] 68)
  have x_0 := Lib.hid f1
  have s_0 := Lib.hid f2
  have q_0 := Lib.hid f3
  have B0 := Lib.hid f4
  clear f1 f2 f3 f4
  go_enter Try.func10, Try.ntmps10
  go_upto_region 1 with fail
  generalize (((w.alloc (.cells #[.int .i64 b, .int .i64 c, .int .i64 d, .int .i64 m0, .int .i64 m1, .int .i64 m2, .int .i64 p] 24)).alloc (.cells #[.int .i64 b', .int .i64 c', .int .i64 d', .int .i64 n0, .int .i64 n1, .int .i64 n2, .int .i64 p', .int .i64 ph, .int .i64 st, .int .i64 re, .int .i64 si] 26)).alloc (.cells #[.int .i64 es0, .int .i64 eu0, .int .i64 et0, .int .i64 ec0, .int .i64 ea0, .int .i64 es1, .int .i64 eu1, .int .i64 et1, .int .i64 ec1, .int .i64 ea1, .int .i64 es2, .int .i64 eu2, .int .i64 et2, .int .i64 ec2, .int .i64 ea2, .int .i64 es3, .int .i64 eu3, .int .i64 et3, .int .i64 ec3, .int .i64 ea3] 68)) = w3 at x_0 s_0 q_0 B0 ⊢
  refine wp_region_below (w3.heap.size) (by kernel_rfl) (by kernel_rfl) ?_
  repeat (first | (refine wpq_row (by rfl) 24 _ rfl _ rfl _ _ _ _ x_0.out (lt_size x_0.out) rfl Try.underlying24 (by kernel_rfl) ?_) | (refine wpq_row (by rfl) 26 _ rfl _ rfl _ _ _ _ s_0.out (lt_size s_0.out) rfl Try.underlying26 (by kernel_rfl) ?_) | (refine wpq_row (by rfl) 68 _ rfl _ rfl _ _ _ _ q_0.out (lt_size q_0.out) rfl Try.underlying68 (by kernel_rfl) ?_) | go_big_quiet_step ((first | (go_at_call 43; exact BW.call (Nat.le_refl _) (T0.out _)) | (go_at_call 44; exact BW.call (Nat.le_refl _) (HB1.out _)) | (go_at_call 45; exact BW.call (Nat.le_refl _) (HB2.out _)) | (go_at_call 46; exact BW.call (Nat.le_refl _) (HN1.out _)) | (go_at_call 47; exact BW.call (Nat.le_refl _) (HN2.out _)) | (go_at_call 48; exact BW.call (Nat.le_refl _) (HR1.out _)) | (go_at_call 49; exact BW.call (Nat.le_refl _) (HR2.out _)))) | quiet_step ((first | (go_at_call 43; exact BW.call (Nat.le_refl _) (T0.out _)) | (go_at_call 44; exact BW.call (Nat.le_refl _) (HB1.out _)) | (go_at_call 45; exact BW.call (Nat.le_refl _) (HB2.out _)) | (go_at_call 46; exact BW.call (Nat.le_refl _) (HN1.out _)) | (go_at_call 47; exact BW.call (Nat.le_refl _) (HN2.out _)) | (go_at_call 48; exact BW.call (Nat.le_refl _) (HR1.out _)) | (go_at_call 49; exact BW.call (Nat.le_refl _) (HR2.out _)))))
  refine wpQuiet_nil ?_
  intro _ hw'
  obtain ⟨sb, hw''⟩ := hw'
  subst hw''
  go_wp2
  go_ret
  exact ⟨rfl, bel0 B0.out B0.out.size sb.h⟩
end Go.Proofs.Ytplgodfhhlnojaa
