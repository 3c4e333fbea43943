/- The walk over PhasorOf at a third of a turn, forth and back. -/
import Derived.Test.YtacigddenamphaaWk1
namespace Go.Proofs.Ytacigddenamphaa
open Go.RowKit

def tr (x : Nat) : Option Nat := match FloatKind.f64.decode x with | .nan _ _ => none | d => some (FloatKind.f64.encode (d.integral .zero))

theorem trunc_run (x t : Nat) (h : tr x = some t) (w : World) :
    (callFunc 52 #[.float .f64 x]).run Try.prog w = .ok (.value (.float .f64 t)) w := by
  rw [run_callFunc_extern (fn := Try.f52) (e := Extern.MathFloor.toIntegral "math.archTrunc" .zero) Try.func52 (by kernel_rfl) (by kernel_rfl) (by kernel_rfl) (by kernel_rfl)]
  have e : Extern.MathFloor.toIntegral "math.archTrunc" .zero #[.float .f64 x] = (match FloatKind.f64.decode x with
    | .nan s t =>
      if FloatKind.f64.format.quiet t = t then pure (.float .f64 x) else do
      let kept ← choose (.extern "math.Floor,Ceil,Trunc,RoundToEven.signallingNaN kept" 2)
      pure (.float .f64 (if kept == 1 then x else FloatKind.f64.encode (.nan s (FloatKind.f64.format.quiet t))))
    | d => pure (.float .f64 (FloatKind.f64.encode (d.integral .zero)))) := rfl
  rw [e]
  cases hd : FloatKind.f64.decode x with
  | number s m i => unfold tr at h; rw [hd] at h; cases h; rfl
  | infinity s => unfold tr at h; rw [hd] at h; cases h; rfl
  | nan s t => unfold tr at h; rw [hd] at h; cases h


set_option maxHeartbeats 400000 in
theorem part_pos (x t : Nat) (w : World) (h : tr x = some t)
    (h1 : (FloatKind.f64.format.order t 0 != some .eq) = false) (h2 : (FloatKind.f64.format.order x 0 == some .lt) = false) :
    Calls Try.prog 42 #[.float .f64 x] w fun e w' => e = .returned (.float .f64 x) ∧ w' = w := by
  have h := trunc_run x t h
  go_enter Try.func42, Try.ntmps42
  go_wp2
  go_ret
  exact ⟨rfl, rfl⟩

set_option maxHeartbeats 400000 in
theorem part_neg (x t y : Nat) (w : World) (h : tr x = some t)
    (h1 : (FloatKind.f64.format.order t 0 != some .eq) = false) (h2 : (FloatKind.f64.format.order x 0 == some .lt) = true)
    (h3 : floatBits .add .f64 x 4607182418800017408 = some y) :
    Calls Try.prog 42 #[.float .f64 x] w fun e w' => e = .returned (.float .f64 y) ∧ w' = w := by
  have h := trunc_run x t h
  have h3 := fop h3
  go_enter Try.func42, Try.ntmps42
  go_wp2
  go_ret
  exact ⟨rfl, rfl⟩

/-- One round of the sum in 'sine': p becomes 1 - u p / (2 k (2 k + 1)). -/
def sineStep (u p : Nat) (k : Int) : Option Nat :=
  (floatBits .mul .f64 u p).bind fun a => (floatBits .quo .f64 a (floatOfInt .f64 (wrap64 (2 * k * (2 * k + 1))))).bind fun b => floatBits .sub .f64 4607182418800017408 b

/-- What p is when k has come down to 8 - j. -/
def sineAt (u : Nat) : Nat → Option Nat
  | 0 => some 4607182418800017408
  | j + 1 => (sineAt u j).bind fun p => sineStep u p (8 - j)

theorem sineAt_some {u r : Nat} (h : sineAt u 8 = some r) : ∀ j, j ≤ 8 → ∃ p, sineAt u j = some p := by
  have : ∀ d j, j + d = 8 → ∃ p, sineAt u j = some p := by
    intro d
    induction d with
    | zero => intro j hj; exact ⟨r, by rw [show j = 8 by omega]; exact h⟩
    | succ d ih =>
      intro j hj
      obtain ⟨p, hp⟩ := ih (j + 1) (by omega)
      unfold sineAt at hp
      cases hq : sineAt u j with
      | none => rw [hq] at hp; cases hp
      | some q => exact ⟨q, rfl⟩
  intro j hj
  exact this (8 - j) j (by omega)

set_option maxHeartbeats 1000000 in
theorem sine_calls (x t z u p r : Nat) (w : World) (h : tr x = some t)
    (h1 : (FloatKind.f64.format.order t 0 != some .eq) = false) (h2 : (FloatKind.f64.format.order x 0 == some .lt) = false)
    (h3 : (FloatKind.f64.format.order x 4602678819172646912 == some .gt || FloatKind.f64.format.order x 4602678819172646912 == some .eq) = false)
    (h4 : (FloatKind.f64.format.order x 4598175219545276416 == some .gt) = false)
    (h5 : floatBits .mul .f64 x 4618760256179416344 = some z) (h6 : floatBits .mul .f64 z z = some u)
    (h7 : sineAt u 8 = some p) (h8 : floatBits .mul .f64 z p = some r) :
    Calls Try.prog 43 #[.float .f64 x] w fun e w' => e = .returned (.float .f64 r) ∧ w' = w := by
  have h5 := fop h5; have h6 := fop h6; have h8 := fop h8
  have hp := Lib.hid (part_pos x t · h h1 h2)
  have H7 := Lib.hid h7
  clear h h1 h2 h7
  go_enter Try.func43, Try.ntmps43
  go_wp2_with (go_at_call 42; refine (hp.out _).mono ?_; rintro e w' ⟨rfl, rfl⟩)
  go_loop [7, 8] (fun q k => ∃ j a : Nat, j ≤ 8 ∧ k = .int .i64 (8 - j) ∧ Hid (sineAt u j = some a) ∧ q = .float .f64 a) (fun _ k => (intOf k).toNat)
  case atStart => exact ⟨0, _, by omega, rfl, Lib.hid rfl, rfl⟩
  case round =>
    obtain ⟨j, a, hj, rfl, ha, rfl⟩ := hrel
    by_cases h8 : j < 8
    · obtain ⟨b, hb⟩ := sineAt_some H7.out (j + 1) (by omega)
      have hs : sineStep u a (8 - j) = some b := by
        have := hb
        unfold sineAt at this
        rw [ha.out] at this
        exact this
      unfold sineStep at hs
      obtain ⟨c, hc1, hs⟩ := bind_some hs
      obtain ⟨d, hc2, hs⟩ := bind_some hs
      have hc1 := fop hc1; have hc2 := fop hc2; have hc3 := fop hs
      have Hb := Lib.hid hb
      clear hs hb
      go_wp2
      go_round
      case rel => exact ⟨j + 1, b, by omega, by go_num, Hb, rfl⟩
      case measure => simp [intOf]; omega
    · obtain rfl : j = 8 := by omega
      have e : a = p := Option.some.inj (ha.out.symm.trans H7.out)
      subst e
      go_wp2
      go_ret
      exact ⟨rfl, rfl⟩
theorem bits_run (x : Nat) (w : World) : (callFunc 48 #[.float .f64 x]).run Try.prog w = .ok (.value (.int .u64 x)) w := by
  rw [run_callFunc_extern (fn := Try.f48) (e := Extern.MathFloatBits.float64bits) Try.func48 (by kernel_rfl) (by kernel_rfl) (by kernel_rfl) (by kernel_rfl)]
  rfl
theorem frombits_run (n : Int) (w : World) : (callFunc 47 #[.int .u64 n]).run Try.prog w = .ok (.value (.float .f64 n.toNat)) w := by
  rw [run_callFunc_extern (fn := Try.f47) (e := Extern.MathFloatBits.float64frombits) Try.func47 (by kernel_rfl) (by kernel_rfl) (by kernel_rfl) (by kernel_rfl)]
  rfl

set_option maxHeartbeats 400000 in
theorem abs_calls (x y : Nat) (w : World) (h : (bits BinOp.andNot IntKind.u64 (x : Int) 9223372036854775808).toNat = y) :
    Calls Try.prog 41 #[.float .f64 x] w fun e w' => e = .returned (.float .f64 y) ∧ w' = w := by
  have h1 := bits_run x
  have h2 := frombits_run (bits BinOp.andNot IntKind.u64 (x : Int) 9223372036854775808)
  rw [h] at h2
  clear h
  go_enter Try.func41, Try.ntmps41
  go_wp2
  go_ret
  exact ⟨rfl, rfl⟩

set_option maxHeartbeats 1000000 in
theorem sine_f1 (w : World) : Calls Try.prog 43 #[.float .f64 4590669220166325588] w fun e w' => e = .returned (.float .f64 4602678819172646909) ∧ w' = w :=
  sine_calls 4590669220166325588 0 4602891378046628708 4598610369551577055 4606776461254110404 4602678819172646909 w (by kernel_rfl) (by kernel_rfl) (by kernel_rfl) (by kernel_rfl) (by kernel_rfl) (by kernel_rfl) (by kernel_rfl) (by kernel_rfl) (by kernel_rfl)
theorem sine_f2 (w : World) : Calls Try.prog 43 #[.float .f64 4595172819793696086] w fun e w' => e = .returned (.float .f64 4605975682916830379) ∧ w' = w :=
  sine_calls 4595172819793696086 0 4607394977673999206 4607617568806318051 4605624113369216925 4605975682916830379 w (by kernel_rfl) (by kernel_rfl) (by kernel_rfl) (by kernel_rfl) (by kernel_rfl) (by kernel_rfl) (by kernel_rfl) (by kernel_rfl) (by kernel_rfl)
theorem sine_f3 (w : World) : Calls Try.prog 43 #[.float .f64 4595172819793696088] w fun e w' => e = .returned (.float .f64 4605975682916830380) ∧ w' = w :=
  sine_calls 4595172819793696088 0 4607394977673999207 4607617568806318053 4605624113369216925 4605975682916830380 w (by kernel_rfl) (by kernel_rfl) (by kernel_rfl) (by kernel_rfl) (by kernel_rfl) (by kernel_rfl) (by kernel_rfl) (by kernel_rfl) (by kernel_rfl)
theorem sine_f4 (w : World) : Calls Try.prog 43 #[.float .f64 4590669220166325584] w fun e w' => e = .returned (.float .f64 4602678819172646904) ∧ w' = w :=
  sine_calls 4590669220166325584 0 4602891378046628705 4598610369551577049 4606776461254110405 4602678819172646904 w (by kernel_rfl) (by kernel_rfl) (by kernel_rfl) (by kernel_rfl) (by kernel_rfl) (by kernel_rfl) (by kernel_rfl) (by kernel_rfl) (by kernel_rfl)

set_option maxHeartbeats 1000000 in
theorem phasor_forth (w : World) : Calls Try.prog 27 #[.float .f64 4599676419421066581] w fun e w' => e = .returned (.complex .f32 3204448256 1063105495) ∧ w' = w := by
  have h0 : floatBits .sub .f64 4599676419421066581 4599676419421066581 = some 0 := by kernel_rfl
  have h0 := fop h0
  have h1 : (FloatKind.f64.format.order 0 0 != some .eq) = false := by kernel_rfl
  have ha := Lib.hid (abs_calls 4599676419421066581 4599676419421066581 · (by kernel_rfl))
  have h2 : (FloatKind.f64.format.order 4599676419421066581 4841369599423283200 == some .gt || FloatKind.f64.format.order 4599676419421066581 4841369599423283200 == some .eq) = false := by kernel_rfl
  have hp := Lib.hid (part_pos 4599676419421066581 0 · (by kernel_rfl) (by kernel_rfl) (by kernel_rfl))
  go_enter Try.func27, Try.ntmps27
  go_wp2_with (first | (go_at_call 41; refine (ha.out _).mono ?_; rintro e w' ⟨rfl, rfl⟩) | (go_at_call 42; refine (hp.out _).mono ?_; rintro e w' ⟨rfl, rfl⟩))
  have g1 : (FloatKind.f64.format.order 4599676419421066581 4598175219545276416 == some .gt || FloatKind.f64.format.order 4599676419421066581 4598175219545276416 == some .eq) = true := by kernel_rfl
  have g2 : floatBits .sub .f64 4599676419421066581 4598175219545276416 = some 4590669220166325588 := by kernel_rfl
  have g2 := fop g2
  have g3 : (FloatKind.f64.format.order 4590669220166325588 4598175219545276416 == some .gt || FloatKind.f64.format.order 4590669220166325588 4598175219545276416 == some .eq) = false := by kernel_rfl
  have g4 : floatBits .sub .f64 4598175219545276416 4590669220166325588 = some 4595172819793696086 := by kernel_rfl
  have g4 := fop g4
  have s1 := Lib.hid sine_f1
  have s2 := Lib.hid sine_f2
  have g5 : floatBits .sub .f64 0 4602678819172646909 = some 13826050856027422717 := by kernel_rfl
  have g5 := fop g5
  have g6 : floatToFloatBits .f64 13826050856027422717 .f32 = some 3204448256 := by kernel_rfl
  have g6 := fnarrow g6
  have g7 : floatToFloatBits .f64 4605975682916830379 .f32 = some 1063105495 := by kernel_rfl
  have g7 := fnarrow g7
  go_loop [3, 4] (fun f q => (f = .float .f64 4599676419421066581 ∧ q = .int .i64 0) ∨ (f = .float .f64 4590669220166325588 ∧ q = .int .i64 1)) (fun _ q => (1 - intOf q).toNat)
  case atStart => exact .inl ⟨rfl, rfl⟩
  case round =>
    rcases hrel with ⟨rfl, rfl⟩ | ⟨rfl, rfl⟩
    · go_wp2
      go_round
      case rel => exact .inr ⟨rfl, rfl⟩
      case measure => decide
    · go_wp2_with (first | (go_at_call 43; first | (with_reducible refine (s1.out _).mono ?_); rintro e w' ⟨rfl, rfl⟩ | (with_reducible refine (s2.out _).mono ?_); rintro e w' ⟨rfl, rfl⟩))
      go_ret
      exact ⟨rfl, rfl⟩

set_option maxHeartbeats 1000000 in
theorem phasor_back (w : World) : Calls Try.prog 27 #[.float .f64 13823048456275842389] w fun e w' => e = .returned (.complex .f32 3204448256 3210589143) ∧ w' = w := by
  have h0 : floatBits .sub .f64 13823048456275842389 13823048456275842389 = some 0 := by kernel_rfl
  have h0 := fop h0
  have h1 : (FloatKind.f64.format.order 0 0 != some .eq) = false := by kernel_rfl
  have ha := Lib.hid (abs_calls 13823048456275842389 4599676419421066581 · (by kernel_rfl))
  have h2 : (FloatKind.f64.format.order 4599676419421066581 4841369599423283200 == some .gt || FloatKind.f64.format.order 4599676419421066581 4841369599423283200 == some .eq) = false := by kernel_rfl
  have hp := Lib.hid (part_neg 13823048456275842389 9223372036854775808 4604180019048437078 · (by kernel_rfl) (by kernel_rfl) (by kernel_rfl) (by kernel_rfl))
  go_enter Try.func27, Try.ntmps27
  go_wp2_with (first | (go_at_call 41; refine (ha.out _).mono ?_; rintro e w' ⟨rfl, rfl⟩) | (go_at_call 42; refine (hp.out _).mono ?_; rintro e w' ⟨rfl, rfl⟩))
  have g1 : (FloatKind.f64.format.order 4604180019048437078 4598175219545276416 == some .gt || FloatKind.f64.format.order 4604180019048437078 4598175219545276416 == some .eq) = true := by kernel_rfl
  have g2 : floatBits .sub .f64 4604180019048437078 4598175219545276416 = some 4601177619296856748 := by kernel_rfl
  have g2 := fop g2
  have g1' : (FloatKind.f64.format.order 4601177619296856748 4598175219545276416 == some .gt || FloatKind.f64.format.order 4601177619296856748 4598175219545276416 == some .eq) = true := by kernel_rfl
  have g2' : floatBits .sub .f64 4601177619296856748 4598175219545276416 = some 4595172819793696088 := by kernel_rfl
  have g2' := fop g2'
  have g3 : (FloatKind.f64.format.order 4595172819793696088 4598175219545276416 == some .gt || FloatKind.f64.format.order 4595172819793696088 4598175219545276416 == some .eq) = false := by kernel_rfl
  have g4 : floatBits .sub .f64 4598175219545276416 4595172819793696088 = some 4590669220166325584 := by kernel_rfl
  have g4 := fop g4
  have s1 := Lib.hid sine_f3
  have s2 := Lib.hid sine_f4
  have g5 : floatBits .sub .f64 0 4602678819172646904 = some 13826050856027422712 := by kernel_rfl
  have g5 := fop g5
  have g5' : floatBits .sub .f64 0 4605975682916830380 = some 13829347719771606188 := by kernel_rfl
  have g5' := fop g5'
  have g6 : floatToFloatBits .f64 13826050856027422712 .f32 = some 3204448256 := by kernel_rfl
  have g6 := fnarrow g6
  have g7 : floatToFloatBits .f64 13829347719771606188 .f32 = some 3210589143 := by kernel_rfl
  have g7 := fnarrow g7
  go_loop [3, 4] (fun f q => (f = .float .f64 4604180019048437078 ∧ q = .int .i64 0) ∨ (f = .float .f64 4601177619296856748 ∧ q = .int .i64 1) ∨ (f = .float .f64 4595172819793696088 ∧ q = .int .i64 2)) (fun _ q => (2 - intOf q).toNat)
  case atStart => exact .inl ⟨rfl, rfl⟩
  case round =>
    rcases hrel with ⟨rfl, rfl⟩ | ⟨rfl, rfl⟩ | ⟨rfl, rfl⟩
    · go_wp2
      go_round
      case rel => exact .inr (.inl ⟨rfl, rfl⟩)
      case measure => decide
    · go_wp2
      go_round
      case rel => exact .inr (.inr ⟨rfl, rfl⟩)
      case measure => decide
    · go_wp2_with (first | (go_at_call 43; first | (with_reducible refine (s1.out _).mono ?_); rintro e w' ⟨rfl, rfl⟩ | (with_reducible refine (s2.out _).mono ?_); rintro e w' ⟨rfl, rfl⟩))
      go_ret
      exact ⟨rfl, rfl⟩

set_option maxHeartbeats 400000 in
theorem turns_calls (w : World) : Calls Try.prog 24 #[] w fun e w' => e = .returned (.tuple #[.complex .f32 3204448256 1063105495, .complex .f32 3204448256 3210589143]) ∧ w' = w := by
  have s1 := Lib.hid phasor_forth
  have s2 := Lib.hid phasor_back
  go_enter Try.func24, Try.ntmps24
  go_wp2_with (first | (go_at_call 27; first | (with_reducible refine (s1.out _).mono ?_); rintro e w' ⟨rfl, rfl⟩ | (with_reducible refine (s2.out _).mono ?_); rintro e w' ⟨rfl, rfl⟩))
  go_ret2
  exact ⟨rfl, rfl⟩
end Go.Proofs.Ytacigddenamphaa
