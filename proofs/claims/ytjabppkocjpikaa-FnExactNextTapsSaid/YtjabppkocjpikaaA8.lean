/- The walk over the law on the comparison of taps. -/
import Derived.Test.YtjabppkocjpikaaA7
namespace Go.Proofs.Ytjabppkocjpikaa
open Go.RowKit

theorem sz_rest (a : Option Addr) (len cap r : Nat) (w : World) (h : len + r = 1048576) :
    Calls Try.prog 5 #[.slice a len cap, .int .i64 1048576] w fun e w' => e = .returned (.int .i64 (r : Int)) ∧ w' = w := by
  have := sz_more a len cap 1048576 w (by omega) (by omega)
  rw [show 1048576 - len = r by omega] at this
  exact this
theorem sz_rest2 (a : Option Addr) (len cap left r : Nat) (w : World) (hl : left ≤ 1048576) (h : len + r = left) :
    Calls Try.prog 5 #[.slice a len cap, .int .i64 (left : Int)] w fun e w' => e = .returned (.int .i64 (r : Int)) ∧ w' = w := by
  have := sz_more a len cap left w (by omega) (by omega)
  rw [show left - len = r by omega] at this
  exact this

set_option maxHeartbeats 1000000 in
theorem same_law (a a' : Option Addr) (cap cap' : Nat) (ts us : List Tp) (w : World) (h1 : IsTaps w a ts.length ts) (h2 : IsTaps w a' us.length us) :
    Calls Try.prog 4 #[.slice a ts.length cap, .slice a' us.length cap'] w fun e w' => e = .returned (.bool true) ∧ Ext w w' := by
  obtain ⟨_, m1, t1, b1⟩ := h1
  obtain ⟨_, m2, t2, b2⟩ := h2
  by_cases hn : 1048576 < ts.length
  · go_enter Try.func4, Try.ntmps4
    go_wp2_with (go_at_call 5; refine (sz_less _ _ _ 1048576 _ (by omega) m1 hn).mono ?_; rintro e w' ⟨rfl, rfl⟩)
    go_ret
    exact ⟨rfl, Ext.refl _⟩
  obtain ⟨r, hr⟩ : ∃ r, ts.length + r = 1048576 := ⟨1048576 - ts.length, by omega⟩
  have c1 := Lib.hid (fun w => sz_rest a ts.length cap r w hr)
  by_cases hm : r < us.length
  · have c2 := Lib.hid (fun w => sz_less a' us.length cap' r w (by omega) m2 hm)
    go_enter Try.func4, Try.ntmps4
    go_wp2_with (go_at_call 5; first | ((with_reducible refine (c1.out _).mono ?_); rintro e w' ⟨rfl, rfl⟩) | ((with_reducible refine (c2.out _).mono ?_); rintro e w' ⟨rfl, rfl⟩))
    go_ret
    exact ⟨rfl, Ext.refl _⟩
  obtain ⟨r', hr'⟩ : ∃ r', us.length + r' = r := ⟨r - us.length, by omega⟩
  have c2 := Lib.hid (fun w => sz_rest2 a' us.length cap' r r' w (by omega) hr')
  have k1 : ts.length ≤ 1048576 := by omega
  have k2 : us.length ≤ 1048576 := by omega
  go_enter Try.func4, Try.ntmps4
  go_wp2_with (go_at_call 5; first | ((with_reducible refine (c1.out _).mono ?_); rintro e w' ⟨rfl, rfl⟩) | ((with_reducible refine (c2.out _).mono ?_); rintro e w' ⟨rfl, rfl⟩))
  refine (totaps_calls a cap ts w' k1 t1).mono ?_
  rintro e W1 ⟨rfl, e1, x1⟩
  have t1 := t1.ext e1
  have t2 := t2.ext e1
  have hE := e1
  clear e1
  go_wp2_with fail
  refine (totaps_calls a' cap' us W1 k2 t2).mono ?_
  rintro e W2 ⟨rfl, e1, x2⟩
  have t1 := t1.ext e1
  have t2 := t2.ext e1
  have x1 := x1.ext e1
  have hE := hE.trans e1
  clear e1
  go_wp2_with fail
  refine (spec_calls _ _ _ _ ts us W2 k1 x1 x2 b1 b2).mono ?_
  rintro e W3 ⟨rfl, e1⟩
  clear x1 x2
  have t1 := t1.ext e1
  have t2 := t2.ext e1
  have hE := hE.trans e1
  clear e1
  go_wp2_with fail
  refine (totaps_calls a cap ts W3 k1 t1).mono ?_
  rintro e W4 ⟨rfl, e1, x3⟩
  have t1 := t1.ext e1
  have t2 := t2.ext e1
  have hE := hE.trans e1
  clear e1
  go_wp2_with fail
  refine (totaps_calls a' cap' us W4 k2 t2).mono ?_
  rintro e W5 ⟨rfl, e1, x4⟩
  have t1 := t1.ext e1
  have t2 := t2.ext e1
  have x3 := x3.ext e1
  have hE := hE.trans e1
  clear e1
  go_wp2_with fail
  refine (impl_calls _ _ _ _ ts us W5 k1 x3 x4).mono ?_
  rintro e W6 ⟨rfl, e1⟩
  have t1 := t1.ext e1
  have t2 := t2.ext e1
  have x3 := x3.ext e1
  have x4 := x4.ext e1
  have hE := hE.trans e1
  clear e1
  go_wp2_with fail
  refine (totaps_calls a cap ts W6 k1 t1).mono ?_
  rintro e W7 ⟨rfl, e1, x5⟩
  have t1 := t1.ext e1
  have t2 := t2.ext e1
  have x3 := x3.ext e1
  have x4 := x4.ext e1
  have hE := hE.trans e1
  clear e1
  go_wp2_with fail
  refine (eqtaps_calls _ _ _ _ ts W7 k1 x3 x5).mono ?_
  rintro e W8 ⟨rfl, e1⟩
  clear x3 x5 t1
  have t2 := t2.ext e1
  have x4 := x4.ext e1
  have hE := hE.trans e1
  clear e1
  go_wp2_with fail
  refine (totaps_calls a' cap' us W8 k2 t2).mono ?_
  rintro e W9 ⟨rfl, e1, x6⟩
  have t2 := t2.ext e1
  have x4 := x4.ext e1
  have hE := hE.trans e1
  clear e1
  go_wp2_with fail
  refine (eqtaps_calls _ _ _ _ us W9 k2 x4 x6).mono ?_
  rintro e W10 ⟨rfl, e1⟩
  clear x4 x6 t2
  have hE := hE.trans e1
  clear e1
  go_wp2
  go_ret
  exact ⟨rfl, hE⟩
end Go.Proofs.Ytjabppkocjpikaa
