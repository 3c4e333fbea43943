/- The walk over the law on taps gone around. -/
import Derived.Test.YtjabppkocjpikaaB2
namespace Go.Proofs.Ytjabppkocjpikaa
open Go.RowKit

set_option maxHeartbeats 1000000 in
theorem totaps_own (a : Option Addr) (cap : Nat) (ts : List Tp) (w : World) (hn : ts.length ≤ 1048576) (h1 : TapsAt w a ts) :
    Calls Try.prog 7 #[.slice a ts.length cap] w fun e w' => e = .returned (.slice (some ⟨w.heap.size, 0, none⟩) ts.length ts.length) ∧ Ext w w' ∧ TapsAt w' (some ⟨w.heap.size, 0, none⟩) ts ∧ Own w' w.heap.size ts.length := by
  have hm := make_run ts.length hn
  go_enter Try.func7, Try.ntmps7
  go_wp2_with fail
  clear hm
  have hO : Own (w.alloc (.cells (madeCells #[.int .i64 0, .int .i64 0, .int .i64 0, .int .i64 0, .float .f32 0] (ts.length * 5)) 33)) w.heap.size ts.length := ⟨_, heap_alloc_at _ _ _ rfl, size_madeCells _ _⟩
  have hE := (Ext.refl w).alloc (.cells (madeCells #[.int .i64 0, .int .i64 0, .int .i64 0, .int .i64 0, .float .f32 0] (ts.length * 5)) 33)
  generalize w.alloc (.cells (madeCells #[.int .i64 0, .int .i64 0, .int .i64 0, .int .i64 0, .float .f32 0] (ts.length * 5)) 33) = W at *
  obtain ⟨B, hB⟩ : ∃ B, w.heap.size = B := ⟨_, rfl⟩
  rw [hB] at hO ⊢
  go_loopw [4] (fun i wr => ∃ k : Nat, i = .int .i64 k ∧ k ≤ ts.length ∧ Ext w wr ∧ Own wr B ts.length ∧ Row wr B 0 (ts.take k)) (fun i _ => (ts.length - (intOf i)).toNat)
  case atStart => exact ⟨0, rfl, Nat.zero_le _, hE, hO, fun i t hi => by simp at hi⟩
  case round =>
    obtain ⟨k, rfl, hk, he, ho, hr⟩ := hrel
    by_cases hlt : k < ts.length
    · obtain ⟨b, off, t, rfl, ht, a1, a2, a3, a4, a5⟩ := (h1.ext he).at_ hlt
      clear h1
      go_wp2_with fail
      have F := totap_calls t wr
      unfold Tp.v at F
      refine F.mono ?_
      rintro e w1 ⟨rfl, h1⟩
      have he1 := he.trans h1
      have ho1 := ho.ext h1
      have hr1 := hr.ext h1
      clear F a1 a2 a3 a4 a5 he ho hr h1
      obtain ⟨x1, c1⟩ := ho1.cell (i := k * 5) (by omega)
      obtain ⟨x2, c2⟩ := ho1.cell (i := k * 5 + 1) (by omega)
      obtain ⟨x3, c3⟩ := ho1.cell (i := k * 5 + 2) (by omega)
      obtain ⟨x4, c4⟩ := ho1.cell (i := k * 5 + 3) (by omega)
      obtain ⟨x5, c5⟩ := ho1.cell (i := k * 5 + 4) (by omega)
      have f1 := ho1.free (k * 5)
      have f2 := ho1.free (k * 5 + 1)
      have f3 := ho1.free (k * 5 + 2)
      have f4 := ho1.free (k * 5 + 3)
      have f5 := ho1.free (k * 5 + 4)
      have hr2 := hr1.snoc ht ho1 hlt
      have ho2 := ((((ho1.set (k * 5) (.int .i64 t.bus)).set (k * 5 + 1) (.int .i64 t.a)).set (k * 5 + 2) (.int .i64 t.b)).set (k * 5 + 3) (.int .i64 t.c)).set (k * 5 + 4) (.float .f32 t.each)
      have hs : ∀ (i : Nat), w.heap.size ≤ (Addr.mk B i none).block := fun i => by rw [hB]; exact Nat.le_refl _
      have he2 := ((((he1.setCell (hs (k * 5)) (.int .i64 t.bus)).setCell (hs (k * 5 + 1)) (.int .i64 t.a)).setCell (hs (k * 5 + 2)) (.int .i64 t.b)).setCell (hs (k * 5 + 3)) (.int .i64 t.c)).setCell (hs (k * 5 + 4)) (.float .f32 t.each)
      clear hs ho1 hr1 he1
      go_wp2
      go_roundw
      case rel => exact ⟨k + 1, by simp, by omega, he2, ho2, hr2⟩
      case measure => simp [intOf]; omega
    · go_wp2
      go_ret
      have hkn : k = ts.length := by omega
      subst hkn
      exact ⟨by rw [hB]; rfl, he, .inr ⟨B, 0, by rw [hB], by rw [List.take_length] at hr; exact hr⟩, by rw [hB]; exact ho⟩

/-- The taps us, a row of the call's own with room for c, in block g. -/
def Mine (w : World) (a : Option Addr) (n g c : Nat) (us : List Tp) : Prop := n = 0 ∨ (a = some ⟨g, 0, none⟩ ∧ Own w g c ∧ n ≤ c ∧ Row w g 0 us)
theorem Mine.ext {w w' : World} {a : Option Addr} {n g c : Nat} {us : List Tp} (h : Mine w a n g c us) (he : Ext w w') : Mine w' a n g c us :=
  h.imp id fun ⟨h1, h2, h3, h4⟩ => ⟨h1, h2.ext he, h3, h4.ext he⟩
theorem Mine.only {w w' : World} {a : Option Addr} {n g c x : Nat} {us : List Tp} (h : Mine w a n g c us) (ho : Only x w w') (hx : g ≠ x) : Mine w' a n g c us :=
  h.imp id fun ⟨h1, h2, h3, h4⟩ => ⟨h1, ho.own h2 hx, h3, ho.row h4 hx⟩
theorem Mine.taps {w : World} {a : Option Addr} {n g c : Nat} {us : List Tp} (h : Mine w a n g c us) (hl : us.length = n) : TapsAt w a us := by
  rcases h with h | ⟨h1, _, _, h4⟩
  · exact .inl (List.length_eq_zero_iff.1 (by omega))
  · exact .inr ⟨g, 0, h1, h4⟩

theorem mine_of {w : World} {base : Nat} {v : Value} {n : Nat} {us : List Tp} (h : w.ownsRow base 33 5 v n (cellsOf us)) (hl : us.length = n) :
    ∃ a cap g c, v = .slice a n cap ∧ base ≤ g ∧ Mine w a n g c us := by
  have h' := h
  obtain ⟨_, h2⟩ := h'
  rcases h2 with ⟨rfl, rfl⟩ | ⟨g, cap, cur, rfl, hb, hg, hnc, _, hs, _⟩
  · exact ⟨none, 0, base, 0, rfl, Nat.le_refl _, .inl rfl⟩
  · refine ⟨_, cap, g, cap, rfl, hb, .inr ⟨rfl, ⟨cur, hg, hs⟩, hnc, fun i t hi => ?_⟩⟩
    have hi' : i < n := by have := (List.getElem?_eq_some_iff.1 hi).1; omega
    have key : ∀ j u, t.cs[j]? = some u → w.cell? ⟨g, 0 + i * 5 + j, none⟩ = some u := fun j u hu => by
      have hj : j < 5 := (List.getElem?_eq_some_iff.1 hu).1
      rw [Nat.zero_add, h.cellAt (i * 5 + j) (by omega)]
      exact cellsOf_at hi hu
    exact ⟨key 0 _ rfl, key 1 _ rfl, key 2 _ rfl, key 3 _ rfl, key 4 _ rfl⟩

theorem eqtaps_n (a a' : Option Addr) (cap cap' n : Nat) (ts : List Tp) (w : World) (hl : ts.length = n) (hn : n ≤ 1048576) (h1 : TapsAt w a ts) (h2 : TapsAt w a' ts) :
    Calls Try.prog 9 #[.slice a n cap, .slice a' n cap'] w fun e w' => e = .returned (.bool true) ∧ Ext w w' := by
  subst hl; exact eqtaps_calls a a' cap cap' ts w hn h1 h2
theorem totaps_n (a : Option Addr) (cap n : Nat) (ts : List Tp) (w : World) (hl : ts.length = n) (hn : n ≤ 1048576) (h1 : TapsAt w a ts) :
    Calls Try.prog 7 #[.slice a n cap] w fun e w' => ∃ x, e = .returned (.slice (some ⟨x, 0, none⟩) n n) ∧ x = w.heap.size ∧ Ext w w' ∧ Mine w' (some ⟨x, 0, none⟩) n x n ts ∧ x < w'.heap.size := by
  subst hl
  refine (totaps_own a cap ts w hn h1).mono ?_
  rintro e w' ⟨rfl, he, ht, ho⟩
  have hlt : w.heap.size < w'.heap.size := by
    obtain ⟨cs, h, _⟩ := ho
    exact (Array.getElem?_eq_some_iff.1 h).1
  refine ⟨_, rfl, rfl, he, ?_, hlt⟩
  rcases ht with rfl | ⟨b, off, hb, hr⟩
  · exact .inl rfl
  · simp only [Option.some.injEq, Addr.mk.injEq] at hb
    obtain ⟨rfl, rfl, _⟩ := hb
    exact .inr ⟨rfl, ho, Nat.le_refl _, hr⟩
theorem next_n (a : Option Addr) (cap n : Nat) (ts : List Tp) (w : World) (hl : ts.length = n) (hn : n ≤ 1048576) (h1 : TapsAt w a ts) :
    Calls Try.prog 8 #[.slice a n cap] w fun e w' => ∃ a1 cap1 g c, e = .returned (.slice a1 n cap1) ∧ w.heap.size ≤ g ∧ Ext w w' ∧ Mine w' a1 n g c (ts.map rot) := by
  subst hl
  refine (next_calls a cap ts w hn h1).mono ?_
  rintro e w' ⟨v, rfl, he, ho⟩
  obtain ⟨a1, cap1, g, c, rfl, hg, hm⟩ := mine_of ho (by simp)
  exact ⟨a1, cap1, g, c, rfl, hg, he, hm⟩
theorem nexts_n (a : Option Addr) (cap n : Nat) (ts : List Tp) (w : World) (hl : ts.length = n) (hn : n ≤ 1048576) (h1 : TapsAt w a ts) :
    Calls Try.prog 6 #[.slice a n cap] w fun e w' => ∃ a1 cap1 g c, e = .returned (.slice a1 n cap1) ∧ w.heap.size ≤ g ∧ Ext w w' ∧ Mine w' a1 n g c (ts.map rot) := by
  subst hl
  refine (nexts_calls a cap ts w hn h1).mono ?_
  rintro e w' ⟨v, rfl, he, ho⟩
  obtain ⟨a1, cap1, g, c, rfl, hg, hm⟩ := mine_of ho (by simp)
  exact ⟨a1, cap1, g, c, rfl, hg, he, hm⟩
theorem mark_n {a : Option Addr} {n g c : Nat} {us : List Tp} (cap : Nat) {w : World} (hn : n ≤ 1048576) (h : Mine w a n g c us) :
    Calls Try.prog 10 #[.slice a n cap, .int .i64 1] w fun e w' => e = .returned (.int .i64 (1 + 5 * (n : Int))) ∧ Only g w w' ∧ Mine w' a n g c (marks n) := by
  have ha : n = 0 ∨ (a = some ⟨g, 0, none⟩ ∧ Own w g c ∧ n ≤ c) := h.imp id fun ⟨h1, h2, h3, _⟩ => ⟨h1, h2, h3⟩
  refine (mark_calls a n cap g c w hn ha).mono ?_
  rintro e w' ⟨rfl, ho, hr⟩
  refine ⟨rfl, ho, ?_⟩
  rcases ha with h | ⟨h1, _, h3⟩
  · exact .inl h
  · exact hr.imp id fun ⟨h2, h4⟩ => ⟨h1, h2, h3, h4⟩
theorem held_n {a : Option Addr} {n g c : Nat} (cap : Nat) {w : World} (hn : n ≤ 1048576) (h : Mine w a n g c (marks n)) :
    Calls Try.prog 11 #[.slice a n cap, .int .i64 1] w fun e w' => e = .returned (.int .i64 (1 + 5 * (n : Int))) ∧ w' = w :=
  held_calls a n cap g w hn (h.imp id fun ⟨h1, _, _, h4⟩ => ⟨h1, h4⟩)

set_option maxHeartbeats 2000000 in
theorem next_law (a : Option Addr) (cap : Nat) (ts : List Tp) (w : World) (h1 : IsTaps w a ts.length ts) :
    Calls Try.prog 3 #[.slice a ts.length cap] w fun e w' => e = .returned (.bool true) ∧ Ext w w' := by
  obtain ⟨_, m1, t1, _⟩ := h1
  by_cases hn : 1048576 < ts.length
  · go_enter Try.func3, Try.ntmps3
    go_wp2_with (go_at_call 5; refine (sz_less _ _ _ 1048576 _ (by omega) m1 hn).mono ?_; rintro e w' ⟨rfl, rfl⟩)
    go_ret
    exact ⟨rfl, Ext.refl _⟩
  obtain ⟨r, hr⟩ : ∃ r, ts.length + r = 1048576 := ⟨1048576 - ts.length, by omega⟩
  have c1 := Lib.hid (fun w => sz_rest a ts.length cap r w hr)
  obtain ⟨n, hl⟩ : ∃ n, ts.length = n := ⟨_, rfl⟩
  rw [hl] at c1 ⊢
  have hn' : n ≤ 1048576 := by omega
  have hl2 : (ts.map rot).length = n := by simp [hl]
  clear m1 hn hr
  obtain ⟨w0, hw0⟩ : ∃ w0, w = w0 := ⟨_, rfl⟩
  have T := Lib.hid (show TapsAt w0 a ts by rw [← hw0]; exact t1)
  have E0 : Ext w0 w := by rw [hw0]; exact Ext.refl _
  have hpost : ∀ w', Ext w0 w' → Ext w w' := fun w' h => by rw [hw0]; exact h
  have P := Lib.hid hpost
  clear t1 hpost hw0
  go_enter Try.func3, Try.ntmps3
  go_wp2_with (go_at_call 5; (with_reducible refine (c1.out _).mono ?_); rintro e w' ⟨rfl, hw⟩; subst hw)
  refine (totaps_n a cap n ts _ hl hn' (T.out.ext E0)).mono ?_
  rintro e W1 ⟨x, rfl, -, e1, y, -⟩
  have E0 := E0.trans e1
  have y := y.taps hl
  clear e1
  go_wp2_with fail
  refine (nexts_n _ _ n ts W1 hl hn' y).mono ?_
  rintro e W2 ⟨a0, cap0, g0, c0, rfl, -, e1, M0⟩
  have E0 := E0.trans e1
  have SZ := Lib.hid E0.size
  have M0 := Lib.hid (M0.taps hl2)
  have E2 := Ext.refl W2
  clear e1 y
  go_wp2_with fail
  refine (totaps_n a cap n ts W2 hl hn' (T.out.ext E0)).mono ?_
  rintro e W3 ⟨X, rfl, hX, e1, y, hX3⟩
  have E0 := E0.trans e1
  have E2 := E2.trans e1
  have HX := Lib.hid hX
  clear e1 hX
  go_wp2_with fail
  refine (next_n _ _ n ts W3 hl hn' (y.taps hl)).mono ?_
  rintro e W4 ⟨a1, cap1, g1, c1', rfl, hg1, e1, M1⟩
  have E0 := E0.trans e1
  have E2 := E2.trans e1
  have y := y.ext e1
  have hne := Lib.hid (show g1 ≠ X by omega)
  have hg2 := Lib.hid (show W2.heap.size ≤ g1 by have := HX.out; omega)
  clear e1 hX3 hg1
  go_wp2_with fail
  refine (eqtaps_n _ _ _ _ n _ W4 hl2 hn' (M1.taps hl2) (M0.out.ext E2)).mono ?_
  rintro e W5 ⟨rfl, e1⟩
  have E0 := E0.trans e1
  have E2 := E2.trans e1
  have y := y.ext e1
  have M1 := M1.ext e1
  clear e1
  go_wp2_with fail
  refine (totaps_n a cap n ts W5 hl hn' (T.out.ext E0)).mono ?_
  rintro e W6 ⟨x', rfl, -, e1, z, -⟩
  have E0 := E0.trans e1
  have E2 := E2.trans e1
  have y := y.ext e1
  have M1 := M1.ext e1
  clear e1
  go_wp2_with fail
  refine (eqtaps_n _ _ _ _ n _ W6 hl hn' (y.taps hl) (z.taps hl)).mono ?_
  rintro e W7 ⟨rfl, e1⟩
  have E0 := E0.trans e1
  have E2 := E2.trans e1
  have y := y.ext e1
  have M1 := M1.ext e1
  clear e1 z
  go_wp2_with fail
  refine (mark_n _ hn' y).mono ?_
  rintro e W8 ⟨rfl, o1, -⟩
  have E0 := o1.ext E0 (by have := E0.size; have := HX.out; have := SZ.out; omega)
  have E2 := o1.ext E2 (by have := HX.out; omega)
  have M1 := M1.only o1 hne.out
  clear o1 y
  go_wp2_with fail
  refine (eqtaps_n _ _ _ _ n _ W8 hl2 hn' (M1.taps hl2) (M0.out.ext E2)).mono ?_
  rintro e W9 ⟨rfl, e1⟩
  have E0 := E0.trans e1
  have E2 := E2.trans e1
  have M1 := M1.ext e1
  clear e1
  go_wp2_with fail
  refine (mark_n _ hn' M1).mono ?_
  rintro e W10 ⟨rfl, o1, M1⟩
  have E0 := o1.ext E0 (by have := hg2.out; have := SZ.out; omega)
  have E2 := o1.ext E2 hg2.out
  clear o1
  go_wp2_with fail
  refine (held_n _ hn' M1).mono ?_
  rintro e W11 ⟨rfl, hw⟩
  subst hw
  go_wp2_with fail
  refine (totaps_n a cap n ts W11 hl hn' (T.out.ext E0)).mono ?_
  rintro e W12 ⟨x3, rfl, -, e1, y, -⟩
  have E0 := E0.trans e1
  have E2 := E2.trans e1
  have M1 := M1.ext e1
  have y := y.taps hl
  clear e1
  go_wp2_with fail
  refine (next_n _ _ n ts W12 hl hn' y).mono ?_
  rintro e W13 ⟨a2, cap2, g2, c2, rfl, -, e1, M2⟩
  have E0 := E0.trans e1
  have E2 := E2.trans e1
  have M1 := M1.ext e1
  clear e1 y
  go_wp2_with fail
  refine (eqtaps_n _ _ _ _ n _ W13 hl2 hn' (M2.taps hl2) (M0.out.ext E2)).mono ?_
  rintro e W14 ⟨rfl, e1⟩
  have E0 := E0.trans e1
  have M1 := M1.ext e1
  clear e1 E2 M2
  go_wp2_with fail
  refine (held_n _ hn' M1).mono ?_
  rintro e W15 ⟨rfl, hw⟩
  subst hw
  go_wp2
  go_ret
  exact ⟨rfl, P.out _ E0⟩
end Go.Proofs.Ytjabppkocjpikaa
