/- The walks over the program's comparison of taps. -/
import Derived.Test.YtjabppkocjpikaaA3
namespace Go.Proofs.Ytjabppkocjpikaa
open Go.RowKit

/-- Behind block g lie three numbers. -/
def Three (w : World) (g : Nat) (a b c : Int) : Prop := w.cell? ⟨g, 0, none⟩ = some (.int .i64 a) ∧ w.cell? ⟨g, 1, none⟩ = some (.int .i64 b) ∧ w.cell? ⟨g, 2, none⟩ = some (.int .i64 c)
theorem Three.ext {w w' : World} {g : Nat} {a b c : Int} (h : Three w g a b c) (he : Ext w w') : Three w' g a b c := ⟨he.cell h.1, he.cell h.2.1, he.cell h.2.2⟩

set_option maxHeartbeats 1000000 in
theorem steps_calls (p : Nat) (a b c : Int) (w : World) (h1 : w.cell? ⟨p, 1, none⟩ = some (.int .i64 a)) (h2 : w.cell? ⟨p, 2, none⟩ = some (.int .i64 b)) (h3 : w.cell? ⟨p, 3, none⟩ = some (.int .i64 c)) :
    Calls Try.prog 20 #[.pointer (some ⟨p, 0, none⟩)] w fun e w' => ∃ g, e = .returned (.slice (some ⟨g, 0, none⟩) 3 3) ∧ Ext w w' ∧ Three w' g a b c := by
  go_enter Try.func20, Try.ntmps20
  go_wp2_with fail
  have A1 := xw_cell h1; have A2 := xw_cell h2; have A3 := xw_cell h3
  clear h1 h2 h3
  refine wp_region_xw_tail 12 (by kernel_rfl) (by kernel_rfl) ?_
  simp only [List.take_succ_cons, List.take_zero, List.drop_succ_cons, List.drop_zero]
  repeat (go_big_quiet_step ((fail)))
  refine wpQuiet_nil ?_
  intro W' hW'
  clear A1 A2 A3
  go_wp2
  go_ret
  refine ⟨_, rfl, hW'.alloc _, ?_, ?_, ?_⟩ <;> go_simp

set_option maxHeartbeats 1000000 in
theorem equal_calls (g g' : Nat) (a b c a' b' c' : Int) (w : World) (h1 : Three w g a b c) (h2 : Three w g' a' b' c') :
    Calls Try.prog 19 #[.slice (some ⟨g, 0, none⟩) 3 3, .slice (some ⟨g', 0, none⟩) 3 3] w fun e w' => e = .returned (.bool (decide (a = a') && decide (b = b') && decide (c = c'))) ∧ Ext w w' := by
  go_enter Try.func19, Try.ntmps19
  go_wp2_with fail
  go_loopw [13] (fun i wr => Ext w wr ∧ (i = .int .i64 0 ∨ (i = .int .i64 1 ∧ a = a') ∨ (i = .int .i64 2 ∧ a = a' ∧ b = b') ∨ (i = .int .i64 3 ∧ a = a' ∧ b = b' ∧ c = c'))) (fun i _ => (3 - (intOf i)).toNat)
  case atStart => exact ⟨Ext.refl _, .inl rfl⟩
  case round =>
    obtain ⟨he, hrel⟩ := hrel
    obtain ⟨a1, a2, a3⟩ := h1.ext he
    obtain ⟨b1, b2, b3⟩ := h2.ext he
    have A1 := xw_cell a1; have A2 := xw_cell a2; have A3 := xw_cell a3; have B1 := xw_cell b1; have B2 := xw_cell b2; have B3 := xw_cell b3
    clear a1 a2 a3 b1 b2 b3 h1 h2
    rcases hrel with rfl | ⟨rfl, rfl⟩ | ⟨rfl, rfl, rfl⟩ | ⟨rfl, rfl, rfl, rfl⟩
    · by_cases hx : a = a'
      · subst hx
        go_wp2_with fail
        refine wp_region_xw_all (by kernel_rfl) (by kernel_rfl) ?_
        repeat (go_big_quiet_step ((fail)))
        refine wpQuiet_nil ?_
        intro W' hW'
        have hE := he.trans hW'
        clear A1 A2 A3 B1 B2 B3 hW' he
        go_wp2
        go_roundw
        case rel => exact ⟨hE, .inr (.inl (by simp))⟩
        case measure => simp [intOf]
      · have hb : (a != a') = true := by simp [hx]
        go_wp2_with fail
        refine wp_region_xw_all (by kernel_rfl) (by kernel_rfl) ?_
        repeat (go_big_quiet_step ((fail)))
        refine wpQuiet_nil ?_
        intro W' hW'
        have hE := he.trans hW'
        clear A1 A2 A3 B1 B2 B3 hW' he
        go_wp2
        go_ret
        exact ⟨by simp_all, hE⟩
    · by_cases hx : b = b'
      · subst hx
        go_wp2_with fail
        refine wp_region_xw_all (by kernel_rfl) (by kernel_rfl) ?_
        repeat (go_big_quiet_step ((fail)))
        refine wpQuiet_nil ?_
        intro W' hW'
        have hE := he.trans hW'
        clear A1 A2 A3 B1 B2 B3 hW' he
        go_wp2
        go_roundw
        case rel => exact ⟨hE, .inr (.inr (.inl (by simp)))⟩
        case measure => simp [intOf]
      · have hb : (b != b') = true := by simp [hx]
        go_wp2_with fail
        refine wp_region_xw_all (by kernel_rfl) (by kernel_rfl) ?_
        repeat (go_big_quiet_step ((fail)))
        refine wpQuiet_nil ?_
        intro W' hW'
        have hE := he.trans hW'
        clear A1 A2 A3 B1 B2 B3 hW' he
        go_wp2
        go_ret
        exact ⟨by simp_all, hE⟩
    · by_cases hx : c = c'
      · subst hx
        go_wp2_with fail
        refine wp_region_xw_all (by kernel_rfl) (by kernel_rfl) ?_
        repeat (go_big_quiet_step ((fail)))
        refine wpQuiet_nil ?_
        intro W' hW'
        have hE := he.trans hW'
        clear A1 A2 A3 B1 B2 B3 hW' he
        go_wp2
        go_roundw
        case rel => exact ⟨hE, .inr (.inr (.inr (by simp)))⟩
        case measure => simp [intOf]
      · have hb : (c != c') = true := by simp [hx]
        go_wp2_with fail
        refine wp_region_xw_all (by kernel_rfl) (by kernel_rfl) ?_
        repeat (go_big_quiet_step ((fail)))
        refine wpQuiet_nil ?_
        intro W' hW'
        have hE := he.trans hW'
        clear A1 A2 A3 B1 B2 B3 hW' he
        go_wp2
        go_ret
        exact ⟨by simp_all, hE⟩
    · go_wp2
      go_ret
      exact ⟨by simp, he⟩

/-- Two taps are the same. -/
def Tp.same (t u : Tp) : Bool := decide (t.bus = u.bus) && (decide (t.a = u.a) && decide (t.b = u.b) && decide (t.c = u.c)) && sm t.each u.each

set_option maxHeartbeats 1000000 in
theorem same_calls (t u : Tp) (w : World) : Calls Try.prog 18 #[t.v, u.v] w fun e w' => e = .returned (.bool (t.same u)) ∧ Ext w w' := by
  obtain ⟨p, a, b, c, x⟩ := t
  obtain ⟨q, d, e, f, y⟩ := u
  unfold Tp.v Tp.same
  simp only
  by_cases h1 : p = q
  · subst h1
    go_enter Try.func18, Try.ntmps18
    go_wp2_with fail
    have a1 : ((w.alloc (.cells #[.int .i64 p, .int .i64 a, .int .i64 b, .int .i64 c, .float .f32 x] 33)).alloc (.cells #[.int .i64 p, .int .i64 d, .int .i64 e, .int .i64 f, .float .f32 y] 33)).cell? ⟨w.heap.size, 1, none⟩ = some (.int .i64 a) := by go_simp
    have a2 : ((w.alloc (.cells #[.int .i64 p, .int .i64 a, .int .i64 b, .int .i64 c, .float .f32 x] 33)).alloc (.cells #[.int .i64 p, .int .i64 d, .int .i64 e, .int .i64 f, .float .f32 y] 33)).cell? ⟨w.heap.size, 2, none⟩ = some (.int .i64 b) := by go_simp
    have a3 : ((w.alloc (.cells #[.int .i64 p, .int .i64 a, .int .i64 b, .int .i64 c, .float .f32 x] 33)).alloc (.cells #[.int .i64 p, .int .i64 d, .int .i64 e, .int .i64 f, .float .f32 y] 33)).cell? ⟨w.heap.size, 3, none⟩ = some (.int .i64 c) := by go_simp
    have a4 : ((w.alloc (.cells #[.int .i64 p, .int .i64 a, .int .i64 b, .int .i64 c, .float .f32 x] 33)).alloc (.cells #[.int .i64 p, .int .i64 d, .int .i64 e, .int .i64 f, .float .f32 y] 33)).cell? ⟨w.heap.size, 4, none⟩ = some (.float .f32 x) := by go_simp
    have b1 : ((w.alloc (.cells #[.int .i64 p, .int .i64 a, .int .i64 b, .int .i64 c, .float .f32 x] 33)).alloc (.cells #[.int .i64 p, .int .i64 d, .int .i64 e, .int .i64 f, .float .f32 y] 33)).cell? ⟨w.heap.size + 1, 1, none⟩ = some (.int .i64 d) := by go_simp
    have b2 : ((w.alloc (.cells #[.int .i64 p, .int .i64 a, .int .i64 b, .int .i64 c, .float .f32 x] 33)).alloc (.cells #[.int .i64 p, .int .i64 d, .int .i64 e, .int .i64 f, .float .f32 y] 33)).cell? ⟨w.heap.size + 1, 2, none⟩ = some (.int .i64 e) := by go_simp
    have b3 : ((w.alloc (.cells #[.int .i64 p, .int .i64 a, .int .i64 b, .int .i64 c, .float .f32 x] 33)).alloc (.cells #[.int .i64 p, .int .i64 d, .int .i64 e, .int .i64 f, .float .f32 y] 33)).cell? ⟨w.heap.size + 1, 3, none⟩ = some (.int .i64 f) := by go_simp
    have b4 : ((w.alloc (.cells #[.int .i64 p, .int .i64 a, .int .i64 b, .int .i64 c, .float .f32 x] 33)).alloc (.cells #[.int .i64 p, .int .i64 d, .int .i64 e, .int .i64 f, .float .f32 y] 33)).cell? ⟨w.heap.size + 1, 4, none⟩ = some (.float .f32 y) := by go_simp
    have hE : Ext w ((w.alloc (.cells #[.int .i64 p, .int .i64 a, .int .i64 b, .int .i64 c, .float .f32 x] 33)).alloc (.cells #[.int .i64 p, .int .i64 d, .int .i64 e, .int .i64 f, .float .f32 y] 33)) := ((Ext.refl w).alloc _).alloc _
    generalize ((w.alloc (.cells #[.int .i64 p, .int .i64 a, .int .i64 b, .int .i64 c, .float .f32 x] 33)).alloc (.cells #[.int .i64 p, .int .i64 d, .int .i64 e, .int .i64 f, .float .f32 y] 33)) = W at *
    obtain ⟨B, hB⟩ : ∃ B, w.heap.size = B := ⟨_, rfl⟩
    rw [hB] at a1 a2 a3 a4 b1 b2 b3 b4 ⊢
    refine (steps_calls B a b c W a1 a2 a3).mono ?_
    rintro r W1 ⟨g, rfl, e1, t1⟩
    have b1 := e1.cell b1; have b2 := e1.cell b2; have b3 := e1.cell b3
    have a4 := e1.cell a4; have b4 := e1.cell b4
    have hE := hE.trans e1
    clear a1 a2 a3 e1
    go_wp2_with fail
    refine (steps_calls (B + 1) d e f W1 b1 b2 b3).mono ?_
    rintro r W2 ⟨g', rfl, e1, t2⟩
    have t1 := t1.ext e1
    have a4 := e1.cell a4; have b4 := e1.cell b4
    have hE := hE.trans e1
    clear b1 b2 b3 e1
    go_wp2_with fail
    refine (equal_calls g g' a b c d e f W2 t1 t2).mono ?_
    rintro r W3 ⟨rfl, e1⟩
    have a4 := e1.cell a4; have b4 := e1.cell b4
    have hE := hE.trans e1
    clear t1 t2 e1
    cases hb : (decide (a = d) && decide (b = e) && decide (c = f))
    · go_wp2
      go_ret
      exact ⟨by rw [hb]; simp, hE⟩
    · go_wp2_with (go_at_call 21; refine (samen_calls x y _).mono ?_; rintro r w' ⟨rfl, rfl⟩)
      go_ret
      exact ⟨by rw [hb]; simp, hE⟩
  · go_enter Try.func18, Try.ntmps18
    go_wp2
    go_ret
    exact ⟨by simp [h1], ((Ext.refl w).alloc _).alloc _⟩
end Go.Proofs.Ytjabppkocjpikaa
