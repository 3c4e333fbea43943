/- The walks over the small functions on numbers: is it not a number, its bits, is it the same. -/
import Derived.Test.YtjabppkocjpikaaChecked
import Derived.WalkKit
import Derived.WalkSpells
import Derived.WalkLawsBesides
import Derived.BigQuiet
import Derived.Deep.QuietTactic
import Derived.Lib.Hide
namespace Go.Proofs.Ytjabppkocjpikaa
open Go.RowKit

/-- x is not a number. -/
def nan (x : Nat) : Bool := FloatKind.f32.format.order x x != some .eq
/-- The bits of x, the same ones for all that are not numbers. -/
def nb (x : Nat) : Int := if nan x then 2143289344 else (x : Int)
/-- x and y are the same number. -/
def sm (x y : Nat) : Bool := decide (nb x = nb y)

theorem nan_eq {x : Nat} (h : x = 2143289344) : nan x = true := by subst h; decide +kernel

theorem sm_eq (x y : Nat) : sm x y = (if nan x || nan y then nan x && nan y else decide ((x : Int) = (y : Int))) := by
  unfold sm nb
  cases hx : nan x <;> cases hy : nan y <;> simp
  · intro h
    have := nan_eq (x := x) (by omega)
    rw [hx] at this; cases this
  · intro h
    have := nan_eq (x := y) (by omega)
    rw [hy] at this; cases this

theorem fne32 (t : TypeId) (x y : Nat) (w : World) : (binOp .neq t (.float .f32 x) (.float .f32 y)).run Try.prog w = .ok (.bool (FloatKind.f32.format.order x y != some .eq)) w := by
  simp [binOp, Op.floatCmp]

theorem isnan_calls (x : Nat) (w : World) : Calls Try.prog 24 #[.float .f32 x] w fun e w' => e = .returned (.bool (nan x)) ∧ w' = w := by
  have h := fne32 31 x x
  go_enter Try.func24, Try.ntmps24
  go_wp2
  go_ret
  exact ⟨rfl, rfl⟩

theorem bits_run (x : Nat) (w : World) : (callFunc 25 #[.float .f32 x]).run Try.prog w = .ok (.value (.int .u32 x)) w := by
  rw [run_callFunc_extern (fn := Try.f25) (e := Extern.MathFloatBits.float32bits) Try.func25 (by kernel_rfl) (by kernel_rfl) (by kernel_rfl) (by kernel_rfl)]
  rfl

theorem lbits_calls (x : Nat) (w : World) (hx : x < 4294967296) : Calls Try.prog 23 #[.float .f32 x] w fun e w' => e = .returned (.int .i64 (nb x)) ∧ w' = w := by
  have h := fne32 31 x x
  have hb := bits_run x
  unfold nb
  cases hn : nan x
  · unfold nan at hn
    go_enter Try.func23, Try.ntmps23
    go_wp2
    go_ret
    exact ⟨by simp, rfl⟩
  · unfold nan at hn
    go_enter Try.func23, Try.ntmps23
    go_wp2
    go_ret
    exact ⟨rfl, rfl⟩

theorem lsame_calls (x y : Nat) (w : World) (hx : x < 4294967296) (hy : y < 4294967296) : Calls Try.prog 16 #[.float .f32 x, .float .f32 y] w fun e w' => e = .returned (.bool (sm x y)) ∧ w' = w := by
  go_enter Try.func16, Try.ntmps16
  go_wp2_with (go_at_call 23; first | ((with_reducible refine (lbits_calls x _ hx).mono ?_); rintro e w' ⟨rfl, rfl⟩) | ((with_reducible refine (lbits_calls y _ hy).mono ?_); rintro e w' ⟨rfl, rfl⟩))
  go_ret
  exact ⟨rfl, rfl⟩

theorem samen_calls (x y : Nat) (w : World) : Calls Try.prog 21 #[.float .f32 x, .float .f32 y] w fun e w' => e = .returned (.bool (sm x y)) ∧ w' = w := by
  rw [sm_eq]
  have hb := bits_run x
  have hb' := bits_run y
  have gx := Lib.hid (fun w => isnan_calls x w)
  have gy := Lib.hid (fun w => isnan_calls y w)
  cases hx : nan x <;> cases hy : nan y <;> rw [hx] at gx <;> rw [hy] at gy <;>
  · go_enter Try.func21, Try.ntmps21
    go_wp2_with (go_at_call 24; first | ((with_reducible refine (gx.out _).mono ?_); rintro e w' ⟨rfl, rfl⟩) | ((with_reducible refine (gy.out _).mono ?_); rintro e w' ⟨rfl, rfl⟩))
    go_ret
    exact ⟨rfl, rfl⟩
end Go.Proofs.Ytjabppkocjpikaa
