/- The walks over the comparison of slices of taps, the program's and the reference's. -/
import Derived.Test.YtjabppkocjpikaaA4
namespace Go.Proofs.Ytjabppkocjpikaa
open Go.RowKit

/-- Two lists have the same taps. -/
def Same (ts us : List Tp) : Prop := ts.length = us.length ∧ ∀ (i : Nat) (t u : Tp), ts[i]? = some t → us[i]? = some u → t.same u = true
open Classical in
noncomputable def sameAll (ts us : List Tp) : Bool := decide (Same ts us)
open Classical in
theorem sameAll_true {ts us : List Tp} (h : Same ts us) : sameAll ts us = true := by unfold sameAll; exact decide_eq_true h
open Classical in
theorem sameAll_false {ts us : List Tp} (h : ¬ Same ts us) : sameAll ts us = false := by unfold sameAll; exact decide_eq_false h

set_option maxHeartbeats 1000000 in
theorem equalfunc_calls (a a' : Option Addr) (cap cap' : Nat) (ts us : List Tp) (w : World) (hn : ts.length ≤ 1048576) (h1 : TapsAt w a ts) (h2 : TapsAt w a' us) :
    Calls Try.prog 17 #[.slice a ts.length cap, .slice a' us.length cap', .func (.func 18) #[] #[]] w fun e w' => e = .returned (.bool (sameAll ts us)) ∧ Ext w w' := by
  by_cases hl : ts.length = us.length
  · obtain ⟨n, hn0⟩ : ∃ n, ts.length = n := ⟨_, rfl⟩
    rw [← hl, hn0]
    rw [hn0] at hn
    go_enter Try.func17, Try.ntmps17
    go_wp2_with fail
    go_loopw [17] (fun i wr => ∃ k : Nat, i = .int .i64 k ∧ k ≤ n ∧ Ext w wr ∧ ∀ (i : Nat) (t u : Tp), i < k → ts[i]? = some t → us[i]? = some u → t.same u = true) (fun i _ => (n - (intOf i)).toNat)
    case atStart => exact ⟨0, rfl, Nat.zero_le _, Ext.refl _, fun i t u hi => absurd hi (Nat.not_lt_zero _)⟩
    case round =>
      obtain ⟨k, rfl, hk, he, hs⟩ := hrel
      by_cases hlt : k < n
      · obtain ⟨b, off, t, rfl, ht, a1, a2, a3, a4, a5⟩ := (h1.ext he).at_ (hn0 ▸ hlt)
        obtain ⟨b', off', u, rfl, hu, b1, b2, b3, b4, b5⟩ := (h2.ext he).at_ (by omega : k < us.length)
        clear h1 h2
        have E1 := (Ext.refl wr).alloc (.cells #[.int .i64 t.bus, .int .i64 t.a, .int .i64 t.b, .int .i64 t.c, .float .f32 t.each] 33)
        have b1 := E1.cell b1; have b2 := E1.cell b2; have b3 := E1.cell b3; have b4 := E1.cell b4; have b5 := E1.cell b5
        have E2 := he.trans (E1.alloc (.cells #[.int .i64 u.bus, .int .i64 u.a, .int .i64 u.b, .int .i64 u.c, .float .f32 u.each] 33))
        clear E1
        go_wp2_with fail
        refine (same_calls t u _).mono ?_
        rintro r W1 ⟨rfl, e1⟩
        have hE := E2.trans e1
        clear E2 e1 he a1 a2 a3 a4 a5 b1 b2 b3 b4 b5
        cases hb : t.same u
        · go_wp2
          go_ret
          exact ⟨by rw [sameAll_false (fun h => by have := h.2 k t u ht hu; rw [hb] at this; cases this)]; rfl, hE⟩
        · go_wp2
          go_roundw
          case rel =>
            refine ⟨k + 1, by simp, by omega, hE, fun i t' u' hi ht' hu' => ?_⟩
            by_cases hik : i = k
            · subst hik
              rw [ht] at ht'; rw [hu] at hu'
              injection ht' with e1; injection hu' with e2
              rw [← e1, ← e2]; exact hb
            · exact hs i t' u' (by omega) ht' hu'
          case measure => simp [intOf]; omega
      · go_wp2
        go_ret
        have hkn : k = n := by omega
        exact ⟨by rw [sameAll_true ⟨hl, fun i t u ht hu => hs i t u (by have := (List.getElem?_eq_some_iff.1 ht).1; omega) ht hu⟩]; rfl, he⟩
  · have hl2 : ¬ ((ts.length : Int) = us.length) := by omega
    go_enter Try.func17, Try.ntmps17
    go_wp2
    go_ret
    exact ⟨by rw [sameAll_false (fun h => hl h.1)]; rfl, Ext.refl _⟩

set_option maxHeartbeats 1000000 in
theorem impl_calls (a a' : Option Addr) (cap cap' : Nat) (ts us : List Tp) (w : World) (hn : ts.length ≤ 1048576) (h1 : TapsAt w a ts) (h2 : TapsAt w a' us) :
    Calls Try.prog 13 #[.slice a ts.length cap, .slice a' us.length cap'] w fun e w' => e = .returned (.bool (sameAll ts us)) ∧ Ext w w' := by
  have F := equalfunc_calls a a' cap cap' ts us w hn h1 h2
  go_enter Try.func13, Try.ntmps13
  go_wp2_with fail
  refine F.mono ?_
  rintro r W1 ⟨rfl, e1⟩
  clear F
  go_wp2
  go_ret
  exact ⟨rfl, e1⟩
end Go.Proofs.Ytjabppkocjpikaa
