/- The walks over the small functions of the laws. -/
import Derived.Test.YtacigddenamphaaWk4
namespace Go.Proofs.Ytacigddenamphaa
open Go.RowKit

/-- The greater of two 64-bit numbers, as 'max' has it. -/
def maxBits (x y : Nat) : Option Nat :=
  match FloatKind.f64.format.order x y with
  | none => none
  | some .lt => some y
  | some .gt => some x
  | some .eq => some (if (FloatKind.f64.decode x).neg then y else x)

theorem max_run (x y m : Nat) (h : maxBits x y = some m) (w : World) : (Builtin.max_ #[35, 35] 35 #[.float .f64 x, .float .f64 y]).run Try.prog w = .ok (.float .f64 m) w := by
  have e : Builtin.max_ #[35, 35] 35 #[.float .f64 x, .float .f64 y] = (Builtin.max2 (.float .f64 x) (.float .f64 y)).bind Sem.pure := rfl
  have e2 : Builtin.max2 (.float .f64 x) (.float .f64 y) = (match FloatKind.f64.format.order x y with
    | none => do pure (.float .f64 (← choose (.nanMinMax .f64 true x y)))
    | some .lt => pure (.float .f64 y)
    | some .gt => pure (.float .f64 x)
    | some .eq => pure (.float .f64 (if (FloatKind.f64.decode x).neg then y else x))) := rfl
  rw [e, e2]
  unfold maxBits at h
  cases ho : FloatKind.f64.format.order x y with
  | none => rw [ho] at h; cases h
  | some o => rw [ho] at h; cases o <;> (cases h; rfl)

set_option maxHeartbeats 400000 in
theorem gap_calls (a b x y m : Nat) (w : World) (h1 : floatBits .sub .f64 a b = some x) (h2 : floatBits .sub .f64 b a = some y) (h3 : maxBits x y = some m) :
    Calls Try.prog 13 #[.float .f64 a, .float .f64 b] w fun e w' => e = .returned (.float .f64 m) ∧ w' = w := by
  have h1 := fop h1; have h2 := fop h2
  have h3 := max_run x y m h3
  go_enter Try.func13, Try.ntmps13
  go_wp2
  go_ret
  exact ⟨rfl, rfl⟩

theorem bits32_run (x : Nat) (w : World) : (callFunc 51 #[.float .f32 x]).run Try.prog w = .ok (.value (.int .u32 x)) w := by
  rw [run_callFunc_extern (fn := Try.f51) (e := Extern.MathFloatBits.float32bits) Try.func51 (by kernel_rfl) (by kernel_rfl) (by kernel_rfl) (by kernel_rfl)]
  rfl

set_option maxHeartbeats 400000 in
theorem same_calls (a : Nat) (w : World) (h : (FloatKind.f32.format.order a a != some .eq) = false) :
    Calls Try.prog 45 #[.float .f32 a, .float .f32 a] w fun e w' => e = .returned (.bool true) ∧ w' = w := by
  have h1 := bits32_run a
  go_enter Try.func45, Try.ntmps45
  go_wp2
  go_ret
  exact ⟨rfl, rfl⟩

set_option maxHeartbeats 400000 in
theorem samec_calls (a b : Nat) (w : World) (h : (FloatKind.f32.format.order a a != some .eq) = false) (h' : (FloatKind.f32.format.order b b != some .eq) = false) :
    Calls Try.prog 30 #[.complex .f32 a b, .complex .f32 a b] w fun e w' => e = .returned (.bool true) ∧ w' = w := by
  have s1 := Lib.hid (same_calls a · h)
  have s2 := Lib.hid (same_calls b · h')
  go_enter Try.func30, Try.ntmps30
  go_wp2_with (go_at_call 45; first | ((with_reducible refine (s1.out _).mono ?_); rintro e w' ⟨rfl, rfl⟩) | ((with_reducible refine (s2.out _).mono ?_); rintro e w' ⟨rfl, rfl⟩))
  go_ret
  exact ⟨rfl, rfl⟩

set_option maxHeartbeats 1000000 in
theorem sameparts_calls (a1 a2 b1 b2 c1 c2 : Nat) (w : World)
    (f1 : ∀ w, Calls Try.prog 30 #[.complex .f32 a1 a2, .complex .f32 a1 a2] w fun e w' => e = .returned (.bool true) ∧ w' = w)
    (f2 : ∀ w, Calls Try.prog 30 #[.complex .f32 b1 b2, .complex .f32 b1 b2] w fun e w' => e = .returned (.bool true) ∧ w' = w)
    (f3 : ∀ w, Calls Try.prog 30 #[.complex .f32 c1 c2, .complex .f32 c1 c2] w fun e w' => e = .returned (.bool true) ∧ w' = w) :
    Calls Try.prog 16 #[.agg #[.complex .f32 a1 a2, .complex .f32 b1 b2, .complex .f32 c1 c2], .agg #[.complex .f32 a1 a2, .complex .f32 b1 b2, .complex .f32 c1 c2]] w fun e w' =>
      e = .returned (.bool true) ∧ Ext w w' := by
  have F1 := Lib.hid f1; have F2 := Lib.hid f2; have F3 := Lib.hid f3
  clear f1 f2 f3
  go_enter Try.func16, Try.ntmps16
  go_wp2_with (go_at_call 30; first | ((with_reducible refine (F1.out _).mono ?_); rintro e w' ⟨rfl, rfl⟩) | ((with_reducible refine (F2.out _).mono ?_); rintro e w' ⟨rfl, rfl⟩) | ((with_reducible refine (F3.out _).mono ?_); rintro e w' ⟨rfl, rfl⟩))
  go_ret
  exact ⟨rfl, ((Ext.refl _).alloc _).alloc _⟩
end Go.Proofs.Ytacigddenamphaa
