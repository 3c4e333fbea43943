/- The walk over the power between voltages and currents. -/
import Derived.Test.YtacigddenamphaaWk10
namespace Go.Proofs.Ytacigddenamphaa
open Go.RowKit

set_option maxHeartbeats 2000000 in
theorem power_calls (a1 a2 b1 b2 c1 c2 d1 d2 e1 e2 f1 f2 m1 m2 n1 n2 p1 p2 r1 r2 s1 s2 t1 t2 : Nat) (w : World)
    (g1 : ∀ w, Calls Try.prog 26 #[.complex .f32 a1 a2, .complex .f32 d1 (Op.negFloat .f32 d2)] w fun e w' => e = .returned (.complex .f32 m1 m2) ∧ w' = w)
    (g2 : ∀ w, Calls Try.prog 26 #[.complex .f32 b1 b2, .complex .f32 e1 (Op.negFloat .f32 e2)] w fun e w' => e = .returned (.complex .f32 n1 n2) ∧ w' = w)
    (g3 : ∀ w, Calls Try.prog 26 #[.complex .f32 c1 c2, .complex .f32 f1 (Op.negFloat .f32 f2)] w fun e w' => e = .returned (.complex .f32 p1 p2) ∧ w' = w)
    (k1 : floatBits .add .f32 0 m1 = some r1) (k2 : floatBits .add .f32 0 m2 = some r2)
    (k3 : floatBits .add .f32 r1 n1 = some s1) (k4 : floatBits .add .f32 r2 n2 = some s2)
    (k5 : floatBits .add .f32 s1 p1 = some t1) (k6 : floatBits .add .f32 s2 p2 = some t2) :
    Calls Try.prog 23 #[.agg #[.complex .f32 a1 a2, .complex .f32 b1 b2, .complex .f32 c1 c2], .agg #[.complex .f32 d1 d2, .complex .f32 e1 e2, .complex .f32 f1 f2]] w fun e w' => e = .returned (.complex .f32 t1 t2) ∧ Ext w w' := by
  have k1 := fcop (.inl rfl) k1 k2; have k3 := fcop (.inl rfl) k3 k4; have k5 := fcop (.inl rfl) k5 k6
  have G1 := Lib.hid g1; have G2 := Lib.hid g2; have G3 := Lib.hid g3
  clear g1 g2 g3
  have i0 : ∀ w, (Instr.index 60 (.agg #[.complex .f32 a1 a2, .complex .f32 b1 b2, .complex .f32 c1 c2]) (.int .i64 0)).run Try.prog w = .ok (.complex .f32 a1 a2) w := fun _ => by kernel_rfl
  have i1 : ∀ w, (Instr.index 60 (.agg #[.complex .f32 a1 a2, .complex .f32 b1 b2, .complex .f32 c1 c2]) (.int .i64 1)).run Try.prog w = .ok (.complex .f32 b1 b2) w := fun _ => by kernel_rfl
  have i2 : ∀ w, (Instr.index 60 (.agg #[.complex .f32 a1 a2, .complex .f32 b1 b2, .complex .f32 c1 c2]) (.int .i64 2)).run Try.prog w = .ok (.complex .f32 c1 c2) w := fun _ => by kernel_rfl
  go_enter Try.func23, Try.ntmps23
  go_wp2_with fail
  have hA := heap_alloc_old (.cells #[.complex .f32 d1 d2, .complex .f32 e1 e2, .complex .f32 f1 f2] 26) (heap_alloc_at w (.cells #[.complex .f32 a1 a2, .complex .f32 b1 b2, .complex .f32 c1 c2] 26) _ rfl)
  have hE := ((Ext.refl w).alloc (.cells #[.complex .f32 a1 a2, .complex .f32 b1 b2, .complex .f32 c1 c2] 26)).alloc (.cells #[.complex .f32 d1 d2, .complex .f32 e1 e2, .complex .f32 f1 f2] 26)
  generalize ((w.alloc (.cells #[.complex .f32 a1 a2, .complex .f32 b1 b2, .complex .f32 c1 c2] 26)).alloc (.cells #[.complex .f32 d1 d2, .complex .f32 e1 e2, .complex .f32 f1 f2] 26)) = W at *
  refine (three_calls _ _ _ _ _ _ _).mono ?_
  rintro e W1 ⟨rfl, hW1⟩
  have hA := heap_alloc_old (.cells #[.complex .f32 d1 d2, .complex .f32 e1 e2, .complex .f32 f1 f2] 60) (hW1.heap hA)
  have hC := heap_alloc_at W1 (.cells #[.complex .f32 d1 d2, .complex .f32 e1 e2, .complex .f32 f1 f2] 60) _ rfl
  have hE := (hE.trans hW1).alloc (.cells #[.complex .f32 d1 d2, .complex .f32 e1 e2, .complex .f32 f1 f2] 60)
  clear hW1
  have a0 := cell_of_heap (i := 0) hA rfl
  have a1' := cell_of_heap (i := 1) hA rfl
  have a2' := cell_of_heap (i := 2) hA rfl
  have HC := Lib.hid hC
  clear hA hC
  go_wp2_with fail
  generalize W1.alloc (.cells #[.complex .f32 d1 d2, .complex .f32 e1 e2, .complex .f32 f1 f2] 60) = W2 at *
  generalize W1.heap.size = nc at *
  clear a0 a1' a2'
  refine (three_calls _ _ _ _ _ _ _).mono ?_
  rintro e W3 ⟨rfl, hW3⟩
  have hC := hW3.heap HC.out
  have hE := hE.trans hW3
  clear HC hW3
  have c0 := cell_of_heap (i := 0) hC rfl
  have c1' := cell_of_heap (i := 1) hC rfl
  have c2' := cell_of_heap (i := 2) hC rfl
  clear hC
  go_wp2_with fail
  go_loop [5, 13] (fun q k => (q = .complex .f32 0 0 ∧ k = .int .i64 0) ∨ (q = .complex .f32 r1 r2 ∧ k = .int .i64 1) ∨ (q = .complex .f32 s1 s2 ∧ k = .int .i64 2) ∨ (q = .complex .f32 t1 t2 ∧ k = .int .i64 3)) (fun _ k => (3 - intOf k).toNat)
  case atStart => exact .inl ⟨rfl, rfl⟩
  case round =>
    rcases hrel with ⟨rfl, rfl⟩ | ⟨rfl, rfl⟩ | ⟨rfl, rfl⟩ | ⟨rfl, rfl⟩
    · go_wp2_with (first | (go_at_call 36; refine (conj_calls _ _ _).mono ?_; rintro e w' ⟨rfl, rfl⟩) | (go_at_call 26; refine (G1.out _).mono ?_; rintro e w' ⟨rfl, rfl⟩))
      go_round
      case rel => exact .inr (.inl ⟨rfl, rfl⟩)
      case measure => decide
    · go_wp2_with (first | (go_at_call 36; refine (conj_calls _ _ _).mono ?_; rintro e w' ⟨rfl, rfl⟩) | (go_at_call 26; refine (G2.out _).mono ?_; rintro e w' ⟨rfl, rfl⟩))
      go_round
      case rel => exact .inr (.inr (.inl ⟨rfl, rfl⟩))
      case measure => decide
    · go_wp2_with (first | (go_at_call 36; refine (conj_calls _ _ _).mono ?_; rintro e w' ⟨rfl, rfl⟩) | (go_at_call 26; refine (G3.out _).mono ?_; rintro e w' ⟨rfl, rfl⟩))
      go_round
      case rel => exact .inr (.inr (.inr ⟨rfl, rfl⟩))
      case measure => decide
    · go_wp2
      go_ret
      exact ⟨rfl, hE⟩
end Go.Proofs.Ytacigddenamphaa
