/- The widening of a number and the comparison of two that were widened. -/
import Derived.Test.YtjabppkocjpikaaA1
import Derived.Test.YtjabppkocjpikaaFlt
import Derived.Test.YtjabppkocjpikaaReg
namespace Go.Proofs.Ytjabppkocjpikaa
open Go.RowKit Flt

/-- What the model draws where a number that is none is widened. -/
def cv (x : Nat) (w : World) : Nat := (Question.nanConv .f64 x).cut (w.tape w.drawn (Question.nanConv .f64 x))

theorem cv_nan (x : Nat) (w : World) : FloatKind.f64.format.order (cv x w) (cv x w) = none := by
  unfold cv Question.cut
  generalize w.tape w.drawn (Question.nanConv .f64 x) = t
  have hr : ∃ s k, Ieee.double.read (t % 2 * 2 ^ 63 + 0x7ff0000000000000 + 1 + t / 2 % (2 ^ 52 - 1)) = .nan s k := by
    have h1 : t / 2 % (2 ^ 52 - 1) < 2 ^ 52 - 1 := Nat.mod_lt _ (by decide)
    have e1 : Ieee.double.signWeight = 2 ^ 63 := by decide
    have e2 : Ieee.double.binade = 2 ^ 52 := by decide
    have e3 : Ieee.double.infRung = 0x7ff0000000000000 := by decide
    unfold Ieee.Format.read
    simp only [e1, e2, e3]
    have e4 : (t % 2 * 2 ^ 63 + 0x7ff0000000000000 + 1 + t / 2 % (2 ^ 52 - 1)) % 2 ^ 63 = 0x7ff0000000000000 + 1 + t / 2 % (2 ^ 52 - 1) := by omega
    rw [e4, if_neg (by omega), if_neg (by omega), if_neg (by omega)]
    exact ⟨_, _, rfl⟩
  obtain ⟨s, k, hr⟩ := hr
  show Ieee.double.order _ _ = none
  unfold Ieee.Format.order
  rw [hr]; rfl

theorem read_nan {x : Nat} (h : nan x = true) : ∃ s k, Ieee.single.read x = .nan s k := by
  cases hr : Ieee.single.read x with
  | nan s k => exact ⟨s, k, rfl⟩
  | infinity s =>
    exfalso
    have : FloatKind.f32.format.order x x = some .eq := by
      show Ieee.single.order x x = _
      unfold Ieee.Format.order
      rw [hr]; cases s <;> rfl
    unfold nan at h; rw [this] at h; cases h
  | number s m e =>
    exfalso
    have hv : Val Ieee.single x (sg s * (m : Rat) * P e) := ⟨s, m, e, hr, rfl⟩
    have : FloatKind.f32.format.order x x = some .eq := by
      have := hv.order hv
      rw [if_neg (by grind), if_pos rfl] at this
      exact this
    unfold nan at h; rw [this] at h; cases h

theorem conv_nan {x : Nat} (h : nan x = true) (w : World) : (convert 31 43 (.float .f32 x)).run Try.prog w = .ok (.float .f64 (cv x w)) w.drew := by
  obtain ⟨s, k, hr⟩ := read_nan h
  have hd : FloatKind.f32.decode x = .nan s k := hr
  simp [convert, run_underlying Try.underlying31, run_underlying Try.underlying43, Conv.floatToFloat, hd]
  rfl

theorem conv_num {x : Nat} (h : nan x = false) : ∃ r, floatToFloatBits .f32 x .f64 = some r ∧ FloatKind.f64.format.order r r = some .eq := by
  cases hr : Ieee.single.read x with
  | nan s k =>
    exfalso
    have : FloatKind.f32.format.order x x = none := by
      show Ieee.single.order x x = _
      unfold Ieee.Format.order
      rw [hr]; rfl
    unfold nan at h; rw [this] at h; cases h
  | infinity s =>
    have hd : FloatKind.f32.decode x = .infinity s := hr
    refine ⟨FloatKind.f64.encode (.infinity s), by unfold floatToFloatBits; rw [if_neg (by decide), hd], ?_⟩
    cases s <;> decide +kernel
  | number s m e =>
    have hv : Val Ieee.single x (sg s * (m : Rat) * P e) := ⟨s, m, e, hr, rfl⟩
    obtain ⟨r, h1, h2⟩ := hv.wide
    have : FloatKind.f64.format.order r r = some .eq := by
      have := h2.order h2
      rw [if_neg (by grind), if_pos rfl] at this
      exact this
    exact ⟨r, h1, this⟩

theorem quo_one {r : Nat} (h : FloatKind.f64.format.order r r = some .eq) : ∃ q, floatBits .quo .f64 4607182418800017408 r = some q := by
  have h1 : ∃ s m e, Ieee.double.read 4607182418800017408 = .number s m e ∧ m ≠ 0 := ⟨_, _, _, rfl, by decide +kernel⟩
  obtain ⟨s, m, e, h1, h0⟩ := h1
  show ∃ q, Ieee.double.div 4607182418800017408 r = some q
  unfold Ieee.Format.div
  rw [h1]
  cases hr : Ieee.double.read r with
  | nan s k =>
    exfalso
    have : FloatKind.f64.format.order r r = none := by
      show Ieee.double.order r r = _
      unfold Ieee.Format.order
      rw [hr]; rfl
    rw [this] at h; cases h
  | infinity s => exact ⟨_, rfl⟩
  | number t n i =>
    unfold Ieee.Datum.quotient
    simp only
    split
    · exact ⟨_, rfl⟩
    · exact ⟨_, rfl⟩

theorem fne64 (t : TypeId) (x y : Nat) (w : World) : (binOp .neq t (.float .f64 x) (.float .f64 y)).run Try.prog w = .ok (.bool (FloatKind.f64.format.order x y != some .eq)) w := by
  simp [binOp, Op.floatCmp]
theorem feq64 (t : TypeId) (x y : Nat) (w : World) : (binOp .eql t (.float .f64 x) (.float .f64 y)).run Try.prog w = .ok (.bool (FloatKind.f64.format.order x y == some .eq)) w := by
  simp [binOp, Op.floatCmp]
theorem fgt64 (t : TypeId) (x y : Nat) (w : World) : (binOp .gtr t (.float .f64 x) (.float .f64 y)).run Try.prog w = .ok (.bool (FloatKind.f64.format.order x y == some .gt)) w := by
  simp [binOp, Op.floatCmp]

theorem samef_nan (x y : Nat) (w : World) (hx : FloatKind.f64.format.order x x = none) (hy : FloatKind.f64.format.order y y = none) :
    Calls Try.prog 22 #[.float .f64 x, .float .f64 y] w fun e w' => e = .returned (.bool true) ∧ w' = w := by
  have h1 := fne64 43 x x
  have h2 := fne64 43 y y
  rw [hx] at h1; rw [hy] at h2
  go_enter Try.func22, Try.ntmps22
  go_wp2
  go_ret
  exact ⟨rfl, rfl⟩

theorem samef_num (x : Nat) (w : World) (hx : FloatKind.f64.format.order x x = some .eq) :
    Calls Try.prog 22 #[.float .f64 x, .float .f64 x] w fun e w' => e = .returned (.bool true) ∧ w' = w := by
  obtain ⟨q, hq⟩ := quo_one hx
  have h1 := fne64 43 x x
  have h2 := feq64 43 x x
  rw [hx] at h1 h2
  have h3 := feq64 43 x 0
  have h4 : ∀ w, (binOp .quo 43 (.float .f64 4607182418800017408) (.float .f64 x)).run Try.prog w = .ok (.float .f64 q) w := fun w => run_float_arith w .quo 43 .f64 _ x q hq
  have h5 := fgt64 43 q 0
  cases hz : FloatKind.f64.format.order x 0 == some .eq <;> rw [hz] at h3
  · go_enter Try.func22, Try.ntmps22
    go_wp2
    go_ret
    exact ⟨rfl, rfl⟩
  · generalize (FloatKind.f64.format.order q 0 == some .gt) = g at h5
    go_enter Try.func22, Try.ntmps22
    go_wp2
    go_ret
    exact ⟨by simp, rfl⟩

theorem Ext.drew {w w' : World} (h : Ext w w') : Ext w w'.drew := Below.drew h

/-- A tap. -/
structure Tp where
  bus : Int
  a : Int
  b : Int
  c : Int
  each : Nat
/-- A tap as a value. -/
def Tp.v (t : Tp) : Value := .agg #[.int .i64 t.bus, .int .i64 t.a, .int .i64 t.b, .int .i64 t.c, .float .f32 t.each]

set_option maxHeartbeats 1000000 in
theorem eqtap_calls (p a b c : Int) (x : Nat) (w : World) :
    Calls Try.prog 15 #[.agg #[.int .i64 p, .int .i64 a, .int .i64 b, .int .i64 c, .float .f32 x], .agg #[.int .i64 p, .int .i64 a, .int .i64 b, .int .i64 c, .float .f32 x]] w fun e w' => e = .returned (.bool true) ∧ Ext w w' := by
  cases hn : nan x
  · obtain ⟨r, h1, h2⟩ := conv_num hn
    have h1' : ∀ w, (convert 31 43 (.float .f32 x)).run Try.prog w = .ok (.float .f64 r) w := fun w => run_convert_float_float w 31 43 .f32 .f64 x r (by rw [Try.underlying31]; rfl) Try.underlying43 h1
    go_enter Try.func15, Try.ntmps15
    go_wp2_with (go_at_call 22; refine (samef_num r _ h2).mono ?_; rintro e w' ⟨rfl, rfl⟩)
    go_ret
    exact ⟨rfl, ((Ext.refl _).alloc _).alloc _⟩
  · have h1 := fun w => conv_nan hn w
    go_enter Try.func15, Try.ntmps15
    go_wp2_with (go_at_call 22; refine (samef_nan _ _ _ (cv_nan _ _) (cv_nan _ _)).mono ?_; rintro e w' ⟨rfl, rfl⟩)
    go_ret
    exact ⟨rfl, (((Ext.refl _).alloc _).alloc _).drew.drew⟩

set_option maxHeartbeats 1000000 in
theorem totap_calls (t : Tp) (w : World) : Calls Try.prog 14 #[t.v] w fun e w' => e = .returned t.v ∧ Ext w w' := by
  obtain ⟨p, a, b, c, x⟩ := t
  unfold Tp.v
  go_enter Try.func14, Try.ntmps14
  go_wp2
  exact bodyPost_ret (v := .agg #[.int .i64 p, .int .i64 a, .int .i64 b, .int .i64 c, .float .f32 x]) (by simp [results, Try.results14, go_sem]) rfl
    ⟨rfl, by repeat (first | exact Ext.refl _ | refine Ext.alloc ?_ _ | refine Ext.setCell ?_ (by simp) _)⟩
end Go.Proofs.Ytjabppkocjpikaa
