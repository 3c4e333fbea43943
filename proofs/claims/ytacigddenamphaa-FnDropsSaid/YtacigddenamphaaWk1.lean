/- The walks over the small functions on complex numbers: what each returns, told by the single operations on the words. -/
import Derived.Test.YtacigddenamphaaChecked
import Derived.WalkKit
import Derived.WalkSpells
import Derived.WalkLawsBesides
import Derived.Lib.Hide
import Derived.Test.YtacigddenamphaaFlt
namespace Go.Proofs.Ytacigddenamphaa
open Go.RowKit

theorem fop {op : BinOp} {k : FloatKind} {x y r : Nat} (h : floatBits op k x y = some r) : ∀ t w, (binOp op t (.float k x) (.float k y)).run Try.prog w = .ok (.float k r) w :=
  fun t w => run_float_arith w op t k x y r h
theorem fwiden {a a' : Nat} (h : floatToFloatBits .f32 a .f64 = some a') : ∀ w, (convert 38 35 (.float .f32 a)).run Try.prog w = .ok (.float .f64 a') w :=
  fun w => run_convert_float_float w 38 35 .f32 .f64 a a' (by rw [Try.underlying38]; rfl) Try.underlying35 h
theorem fnarrow {a a' : Nat} (h : floatToFloatBits .f64 a .f32 = some a') : ∀ w, (convert 35 38 (.float .f64 a)).run Try.prog w = .ok (.float .f32 a') w :=
  fun w => run_convert_float_float w 35 38 .f64 .f32 a a' (by rw [Try.underlying35]; rfl) Try.underlying38 h
theorem fcop {op : BinOp} (hop : op = .add ∨ op = .sub) {a b c d r i : Nat} (h1 : floatBits op .f32 a c = some r) (h2 : floatBits op .f32 b d = some i) :
    ∀ t w, (binOp op t (.complex .f32 a b) (.complex .f32 c d)).run Try.prog w = .ok (.complex .f32 r i) w :=
  fun t w => run_complex_sum w op hop t .f32 a b c d r i (by unfold cSumBits; rw [h1, h2]; rfl)
theorem fgtr {k : FloatKind} {x y : Nat} {o : Ordering} (h : k.format.order x y = some o) : ∀ t w, (binOp .gtr t (.float k x) (.float k y)).run Try.prog w = .ok (.bool (o == .gt)) w := by
  intro t w
  simp [binOp, Op.floatCmp, h]
theorem flss {k : FloatKind} {x y : Nat} {o : Ordering} (h : k.format.order x y = some o) : ∀ t w, (binOp .lss t (.float k x) (.float k y)).run Try.prog w = .ok (.bool (o == .lt)) w := by
  intro t w
  simp [binOp, Op.floatCmp, h]
theorem fgeq {k : FloatKind} {x y : Nat} {o : Ordering} (h : k.format.order x y = some o) : ∀ t w, (binOp .geq t (.float k x) (.float k y)).run Try.prog w = .ok (.bool (o == .gt || o == .eq)) w := by
  intro t w
  simp [binOp, Op.floatCmp, h]
theorem fneq {k : FloatKind} {x y : Nat} {o : Ordering} (h : k.format.order x y = some o) : ∀ t w, (binOp .neq t (.float k x) (.float k y)).run Try.prog w = .ok (.bool (o != .eq)) w := by
  intro t w
  simp [binOp, Op.floatCmp, h]
  cases o <;> rfl
theorem fneg (k : FloatKind) (x : Nat) : ∀ w, (Op.unary .neg (.float k x)).run Try.prog w = .ok (.float k (Op.negFloat k x)) w := fun _ => rfl

theorem sqrt_run (p s : Nat) (h : Ieee.double.sqrt p = some s) (w : World) : (callFunc 44 #[.float .f64 p]).run Try.prog w = .ok (.value (.float .f64 s)) w := by
  rw [run_callFunc_extern (fn := Try.f44) (e := Extern.MathSqrt.sqrt) Try.func44 (by kernel_rfl) (by kernel_rfl) (by kernel_rfl) (by kernel_rfl)]
  have e : Extern.MathSqrt.sqrt #[.float .f64 p] = (match Ieee.double.sqrt p with | some r => pure (.float .f64 r) | none => do pure (.float .f64 (← choose (.nanBits .f64 p p)))) := rfl
  rw [e, h]; rfl

set_option maxHeartbeats 400000 in
theorem mul_calls (a b c d a' b' c' d' ac bd ad bc re im r i : Nat) (w : World)
    (ha : floatToFloatBits .f32 a .f64 = some a') (hb : floatToFloatBits .f32 b .f64 = some b') (hc : floatToFloatBits .f32 c .f64 = some c') (hd : floatToFloatBits .f32 d .f64 = some d')
    (h1 : floatBits .mul .f64 a' c' = some ac) (h2 : floatBits .mul .f64 b' d' = some bd) (h3 : floatBits .sub .f64 ac bd = some re)
    (h4 : floatBits .mul .f64 a' d' = some ad) (h5 : floatBits .mul .f64 b' c' = some bc) (h6 : floatBits .add .f64 ad bc = some im)
    (h7 : floatToFloatBits .f64 re .f32 = some r) (h8 : floatToFloatBits .f64 im .f32 = some i) :
    Calls Try.prog 26 #[.complex .f32 a b, .complex .f32 c d] w fun e w' => e = .returned (.complex .f32 r i) ∧ w' = w := by
  have ha := fwiden ha; have hb := fwiden hb; have hc := fwiden hc; have hd := fwiden hd
  have h1 := fop h1; have h2 := fop h2; have h3 := fop h3; have h4 := fop h4; have h5 := fop h5; have h6 := fop h6
  have h7 := fnarrow h7; have h8 := fnarrow h8
  go_enter Try.func26, Try.ntmps26
  go_wp2
  go_ret
  exact ⟨rfl, rfl⟩

set_option maxHeartbeats 400000 in
theorem long_calls (a b a' b' aa bb p s r : Nat) (w : World)
    (ha : floatToFloatBits .f32 a .f64 = some a') (hb : floatToFloatBits .f32 b .f64 = some b')
    (h1 : floatBits .mul .f64 a' a' = some aa) (h2 : floatBits .mul .f64 b' b' = some bb) (h3 : floatBits .add .f64 aa bb = some p)
    (hs : Ieee.double.sqrt p = some s) (h7 : floatToFloatBits .f64 s .f32 = some r)  :
    Calls Try.prog 14 #[.complex .f32 a b] w fun e w' => e = .returned (.float .f32 r) ∧ w' = w := by
  have ha := fwiden ha; have hb := fwiden hb
  have h1 := fop h1; have h2 := fop h2; have h3 := fop h3
  have h7 := fnarrow h7
  have hs := sqrt_run p s hs
  go_enter Try.func14, Try.ntmps14
  go_wp2
  go_ret
  exact ⟨rfl, rfl⟩

set_option maxHeartbeats 400000 in
theorem apart_calls (a b c d x y l l' : Nat) (w : World) (h1 : floatBits .sub .f32 a c = some x) (h2 : floatBits .sub .f32 b d = some y)
    (hl : ∀ w, Calls Try.prog 14 #[.complex .f32 x y] w fun e w' => e = .returned (.float .f32 l) ∧ w' = w) (h3 : floatToFloatBits .f32 l .f64 = some l') :
    Calls Try.prog 12 #[.complex .f32 a b, .complex .f32 c d] w fun e w' => e = .returned (.float .f64 l') ∧ w' = w := by
  have h := fcop (.inr rfl) h1 h2
  have h3 := fwiden h3
  have hl := Lib.hid hl
  go_enter Try.func12, Try.ntmps12
  go_wp2_with (go_at_call 14; refine (hl.out _).mono ?_; rintro e w' ⟨rfl, rfl⟩)
  go_ret
  exact ⟨rfl, rfl⟩

set_option maxHeartbeats 400000 in
theorem scale_calls (a b c x y : Nat) (w : World) (h1 : floatBits .mul .f32 a c = some x) (h2 : floatBits .mul .f32 b c = some y) :
    Calls Try.prog 25 #[.complex .f32 a b, .float .f32 c] w fun e w' => e = .returned (.complex .f32 x y) ∧ w' = w := by
  have h1 := fop h1; have h2 := fop h2
  go_enter Try.func25, Try.ntmps25
  go_wp2
  go_ret
  exact ⟨rfl, rfl⟩

set_option maxHeartbeats 400000 in
theorem plus_calls (a b c d x y : Nat) (w : World) (h1 : floatBits .add .f32 a c = some x) (h2 : floatBits .add .f32 b d = some y) :
    Calls Try.prog 33 #[.complex .f32 a b, .complex .f32 c d] w fun e w' => e = .returned (.complex .f32 x y) ∧ w' = w := by
  have h := fcop (.inl rfl) h1 h2
  go_enter Try.func33, Try.ntmps33
  go_wp2
  go_ret
  exact ⟨rfl, rfl⟩

set_option maxHeartbeats 400000 in
theorem minus_calls (a b c d x y : Nat) (w : World) (h1 : floatBits .sub .f32 a c = some x) (h2 : floatBits .sub .f32 b d = some y) :
    Calls Try.prog 34 #[.complex .f32 a b, .complex .f32 c d] w fun e w' => e = .returned (.complex .f32 x y) ∧ w' = w := by
  have h := fcop (.inr rfl) h1 h2
  go_enter Try.func34, Try.ntmps34
  go_wp2
  go_ret
  exact ⟨rfl, rfl⟩

set_option maxHeartbeats 400000 in
theorem conj_calls (a b : Nat) (w : World) :
    Calls Try.prog 36 #[.complex .f32 a b] w fun e w' => e = .returned (.complex .f32 a (Op.negFloat .f32 b)) ∧ w' = w := by
  have hn := fneg .f32 b
  go_enter Try.func36, Try.ntmps36
  go_wp2
  go_ret
  exact ⟨rfl, rfl⟩

set_option maxHeartbeats 800000 in
theorem quot_calls (a b c d a' b' c' d' n' ac bd ad bc re im cc dd p qr qi r i : Nat) (w : World)
    (ha : floatToFloatBits .f32 a .f64 = some a') (hb : floatToFloatBits .f32 b .f64 = some b') (hc : floatToFloatBits .f32 c .f64 = some c') (hd : floatToFloatBits .f32 d .f64 = some d')
    (hn : floatToFloatBits .f32 (Op.negFloat .f32 d) .f64 = some n')
    (h1 : floatBits .mul .f64 a' c' = some ac) (h2 : floatBits .mul .f64 b' n' = some bd) (h3 : floatBits .sub .f64 ac bd = some re)
    (h4 : floatBits .mul .f64 a' n' = some ad) (h5 : floatBits .mul .f64 b' c' = some bc) (h6 : floatBits .add .f64 ad bc = some im)
    (h7 : floatBits .mul .f64 c' c' = some cc) (h8 : floatBits .mul .f64 d' d' = some dd) (h9 : floatBits .add .f64 cc dd = some p)
    (h10 : floatBits .quo .f64 re p = some qr) (h11 : floatBits .quo .f64 im p = some qi)
    (h12 : floatToFloatBits .f64 qr .f32 = some r) (h13 : floatToFloatBits .f64 qi .f32 = some i) :
    Calls Try.prog 37 #[.complex .f32 a b, .complex .f32 c d] w fun e w' => e = .returned (.complex .f32 r i) ∧ w' = w := by
  have ha := fwiden ha; have hb := fwiden hb; have hc := fwiden hc; have hd := fwiden hd; have hn := fwiden hn
  have h1 := fop h1; have h2 := fop h2; have h3 := fop h3; have h4 := fop h4; have h5 := fop h5; have h6 := fop h6
  have h7 := fop h7; have h8 := fop h8; have h9 := fop h9; have h10 := fop h10; have h11 := fop h11
  have h12 := fnarrow h12; have h13 := fnarrow h13
  go_enter Try.func37, Try.ntmps37
  go_wp2_with (first | (go_at_call 36; refine (conj_calls _ _ _).mono ?_; rintro e w' ⟨rfl, rfl⟩) | go_in)
  go_ret
  exact ⟨rfl, rfl⟩

end Go.Proofs.Ytacigddenamphaa
