/- The walks over what a load draws, and over powers. -/
import Derived.Test.YtacigddenamphaaWk9
namespace Go.Proofs.Ytacigddenamphaa
open Go.RowKit

set_option maxHeartbeats 400000 in
theorem load_zero (a1 a2 b1 b2 p : Nat) (w : World)
    (h : (FloatKind.f32.format.order a1 0 == some .eq && FloatKind.f32.format.order a2 0 == some .eq) = true) :
    Calls Try.prog 35 #[.complex .f32 a1 a2, .complex .f32 b1 b2, .pointer (some ⟨p, 0, none⟩)] w fun e w' => e = .returned (.complex .f32 0 0) ∧ w' = w := by
  go_enter Try.func35, Try.ntmps35
  go_wp2
  go_ret
  exact ⟨rfl, rfl⟩

set_option maxHeartbeats 400000 in
theorem load_power (a1 a2 b1 b2 p q1 q2 : Nat) (w : World)
    (h : (FloatKind.f32.format.order a1 0 == some .eq && FloatKind.f32.format.order a2 0 == some .eq) = false)
    (hK : w.cell? ⟨p, 3, none⟩ = some (.int .i64 0))
    (g : ∀ w, Calls Try.prog 37 #[.complex .f32 a1 a2, .complex .f32 b1 b2] w fun e w' => e = .returned (.complex .f32 q1 q2) ∧ w' = w) :
    Calls Try.prog 35 #[.complex .f32 a1 a2, .complex .f32 b1 b2, .pointer (some ⟨p, 0, none⟩)] w fun e w' => e = .returned (.complex .f32 q1 (Op.negFloat .f32 q2)) ∧ w' = w := by
  have G := Lib.hid g
  clear g
  go_enter Try.func35, Try.ntmps35
  go_wp2_with (first | ((go_at_call 37; refine (G.out _).mono ?_; rintro e w' ⟨rfl, rfl⟩)) | (go_at_call 36; refine (conj_calls _ _ _).mono ?_; rintro e w' ⟨rfl, rfl⟩))
  go_ret
  exact ⟨rfl, rfl⟩

set_option maxHeartbeats 400000 in
theorem load_current (a1 a2 b1 b2 p : Nat) (w : World)
    (h : (FloatKind.f32.format.order a1 0 == some .eq && FloatKind.f32.format.order a2 0 == some .eq) = false)
    (hK : w.cell? ⟨p, 3, none⟩ = some (.int .i64 1)) :
    Calls Try.prog 35 #[.complex .f32 a1 a2, .complex .f32 b1 b2, .pointer (some ⟨p, 0, none⟩)] w fun e w' => e = .returned (.complex .f32 a1 a2) ∧ w' = w := by
  go_enter Try.func35, Try.ntmps35
  go_wp2
  go_ret
  exact ⟨rfl, rfl⟩

set_option maxHeartbeats 400000 in
theorem load_imp (a1 a2 b1 b2 p q1 q2 : Nat) (w : World)
    (h : (FloatKind.f32.format.order a1 0 == some .eq && FloatKind.f32.format.order a2 0 == some .eq) = false)
    (hK : w.cell? ⟨p, 3, none⟩ = some (.int .i64 2))
    (g : ∀ w, Calls Try.prog 37 #[.complex .f32 b1 b2, .complex .f32 a1 a2] w fun e w' => e = .returned (.complex .f32 q1 q2) ∧ w' = w) :
    Calls Try.prog 35 #[.complex .f32 a1 a2, .complex .f32 b1 b2, .pointer (some ⟨p, 0, none⟩)] w fun e w' => e = .returned (.complex .f32 q1 q2) ∧ w' = w := by
  have G := Lib.hid g
  clear g
  go_enter Try.func35, Try.ntmps35
  go_wp2_with ((go_at_call 37; refine (G.out _).mono ?_; rintro e w' ⟨rfl, rfl⟩))
  go_ret
  exact ⟨rfl, rfl⟩

set_option maxHeartbeats 1000000 in
theorem each_load (a1 a2 b1 b2 c1 c2 d1 d2 e1 e2 f1 f2 x1 x2 y1 y2 z1 z2 : Nat) (p : Addr) (w : World)
    (g1 : ∀ w', Ext w w' → Calls Try.prog 35 #[.complex .f32 a1 a2, .complex .f32 d1 d2, .pointer (some p)] w' fun e w'' => e = .returned (.complex .f32 x1 x2) ∧ Ext w' w'')
    (g2 : ∀ w', Ext w w' → Calls Try.prog 35 #[.complex .f32 b1 b2, .complex .f32 e1 e2, .pointer (some p)] w' fun e w'' => e = .returned (.complex .f32 y1 y2) ∧ Ext w' w'')
    (g3 : ∀ w', Ext w w' → Calls Try.prog 35 #[.complex .f32 c1 c2, .complex .f32 f1 f2, .pointer (some p)] w' fun e w'' => e = .returned (.complex .f32 z1 z2) ∧ Ext w' w'') :
    Calls Try.prog 32 #[.agg #[.complex .f32 a1 a2, .complex .f32 b1 b2, .complex .f32 c1 c2], .agg #[.complex .f32 d1 d2, .complex .f32 e1 e2, .complex .f32 f1 f2], .func (.func 35) #[] #[.pointer (some p)]] w fun e w' => e = .returned (.agg #[.complex .f32 x1 x2, .complex .f32 y1 y2, .complex .f32 z1 z2]) ∧ Ext w w' := by
  have G1 := Lib.hid g1; have G2 := Lib.hid g2; have G3 := Lib.hid g3
  clear g1 g2 g3
  go_enter Try.func32, Try.ntmps32
  go_wp2_with fail
  have hA0 : ∀ e, (xw (((w.alloc (.cells #[.complex .f32 a1 a2, .complex .f32 b1 b2, .complex .f32 c1 c2] 26)).alloc (.cells #[.complex .f32 d1 d2, .complex .f32 e1 e2, .complex .f32 f1 f2] 26)).alloc (.cells #[.complex .f32 0 0, .complex .f32 0 0, .complex .f32 0 0] 26)) e).cell? ⟨w.heap.size, 0, none⟩ = some (.complex .f32 a1 a2) := xw_cell (by go_simp)
  have hA1 : ∀ e, (xw (((w.alloc (.cells #[.complex .f32 a1 a2, .complex .f32 b1 b2, .complex .f32 c1 c2] 26)).alloc (.cells #[.complex .f32 d1 d2, .complex .f32 e1 e2, .complex .f32 f1 f2] 26)).alloc (.cells #[.complex .f32 0 0, .complex .f32 0 0, .complex .f32 0 0] 26)) e).cell? ⟨w.heap.size, 1, none⟩ = some (.complex .f32 b1 b2) := xw_cell (by go_simp)
  have hA2 : ∀ e, (xw (((w.alloc (.cells #[.complex .f32 a1 a2, .complex .f32 b1 b2, .complex .f32 c1 c2] 26)).alloc (.cells #[.complex .f32 d1 d2, .complex .f32 e1 e2, .complex .f32 f1 f2] 26)).alloc (.cells #[.complex .f32 0 0, .complex .f32 0 0, .complex .f32 0 0] 26)) e).cell? ⟨w.heap.size, 2, none⟩ = some (.complex .f32 c1 c2) := xw_cell (by go_simp)
  have hB0 : ∀ e, (xw (((w.alloc (.cells #[.complex .f32 a1 a2, .complex .f32 b1 b2, .complex .f32 c1 c2] 26)).alloc (.cells #[.complex .f32 d1 d2, .complex .f32 e1 e2, .complex .f32 f1 f2] 26)).alloc (.cells #[.complex .f32 0 0, .complex .f32 0 0, .complex .f32 0 0] 26)) e).cell? ⟨w.heap.size + 1, 0, none⟩ = some (.complex .f32 d1 d2) := xw_cell (by go_simp)
  have hB1 : ∀ e, (xw (((w.alloc (.cells #[.complex .f32 a1 a2, .complex .f32 b1 b2, .complex .f32 c1 c2] 26)).alloc (.cells #[.complex .f32 d1 d2, .complex .f32 e1 e2, .complex .f32 f1 f2] 26)).alloc (.cells #[.complex .f32 0 0, .complex .f32 0 0, .complex .f32 0 0] 26)) e).cell? ⟨w.heap.size + 1, 1, none⟩ = some (.complex .f32 e1 e2) := xw_cell (by go_simp)
  have hB2 : ∀ e, (xw (((w.alloc (.cells #[.complex .f32 a1 a2, .complex .f32 b1 b2, .complex .f32 c1 c2] 26)).alloc (.cells #[.complex .f32 d1 d2, .complex .f32 e1 e2, .complex .f32 f1 f2] 26)).alloc (.cells #[.complex .f32 0 0, .complex .f32 0 0, .complex .f32 0 0] 26)) e).cell? ⟨w.heap.size + 1, 2, none⟩ = some (.complex .f32 f1 f2) := xw_cell (by go_simp)
  have hR : (((w.alloc (.cells #[.complex .f32 a1 a2, .complex .f32 b1 b2, .complex .f32 c1 c2] 26)).alloc (.cells #[.complex .f32 d1 d2, .complex .f32 e1 e2, .complex .f32 f1 f2] 26)).alloc (.cells #[.complex .f32 0 0, .complex .f32 0 0, .complex .f32 0 0] 26)).heap[w.heap.size + 2]? = some (.cells #[.complex .f32 0 0, .complex .f32 0 0, .complex .f32 0 0] 26 (0, 0)) := heap_alloc_at _ _ _ (by simp)
  have hE : Ext w (((w.alloc (.cells #[.complex .f32 a1 a2, .complex .f32 b1 b2, .complex .f32 c1 c2] 26)).alloc (.cells #[.complex .f32 d1 d2, .complex .f32 e1 e2, .complex .f32 f1 f2] 26)).alloc (.cells #[.complex .f32 0 0, .complex .f32 0 0, .complex .f32 0 0] 26)) := (((Ext.refl w).alloc _).alloc _).alloc _
  generalize (((w.alloc (.cells #[.complex .f32 a1 a2, .complex .f32 b1 b2, .complex .f32 c1 c2] 26)).alloc (.cells #[.complex .f32 d1 d2, .complex .f32 e1 e2, .complex .f32 f1 f2] 26)).alloc (.cells #[.complex .f32 0 0, .complex .f32 0 0, .complex .f32 0 0] 26)) = W at *
  refine wp_region_xw_tail 19 (by kernel_rfl) (by kernel_rfl) ?_
  simp only [List.take_succ_cons, List.take_zero, List.drop_succ_cons, List.drop_zero]
  repeat (go_big_quiet_step ((go_at_call 35; first | (with_reducible exact call_ext (G1.out _ (hE.trans (xw_ext _ _)))) | (with_reducible exact call_ext (G2.out _ (hE.trans (xw_ext _ _)))) | (with_reducible exact call_ext (G3.out _ (hE.trans (xw_ext _ _)))))))
  refine wpQuiet_nil ?_
  intro W' hW'
  have hR' := hW'.heap hR
  have hE' := hE.trans hW'
  have c0 := cell_of_heap (i := 0) hR' rfl
  have c1 := cell_of_heap (i := 1) hR' rfl
  have c2 := cell_of_heap (i := 2) hR' rfl
  have r0 := free_of_heap 0 hR'
  have r1 := free_of_heap 1 hR'
  have r2 := free_of_heap 2 hR'
  clear hA0 hA1 hA2 hB0 hB1 hB2 hR hE hW' hR'
  go_wp2
  exact bodyPost_ret (v := .agg #[.complex .f32 x1 x2, .complex .f32 y1 y2, .complex .f32 z1 z2]) (by simp [results, Try.results32, go_sem, c0, c1, c2]) rfl
    ⟨rfl, ((Ext.setCell hE' (by dsimp only; omega) _).setCell (by dsimp only; omega) _).setCell (by dsimp only; omega) _⟩

set_option maxHeartbeats 1000000 in
theorem takes_calls (P K U : Int) (o1 o2 h1 h2 l1 l2 m1 m2 n1 n2 : Nat) (a1 a2 b1 b2 c1 c2 x1 x2 y1 y2 z1 z2 : Nat) (w : World)
    (g1 : ∀ (p : Nat) w, w.cell? ⟨p, 3, none⟩ = some (.int .i64 K) → Calls Try.prog 35 #[.complex .f32 l1 l2, .complex .f32 a1 a2, .pointer (some ⟨p, 0, none⟩)] w fun e w' => e = .returned (.complex .f32 x1 x2) ∧ w' = w)
    (g2 : ∀ (p : Nat) w, w.cell? ⟨p, 3, none⟩ = some (.int .i64 K) → Calls Try.prog 35 #[.complex .f32 m1 m2, .complex .f32 b1 b2, .pointer (some ⟨p, 0, none⟩)] w fun e w' => e = .returned (.complex .f32 y1 y2) ∧ w' = w)
    (g3 : ∀ (p : Nat) w, w.cell? ⟨p, 3, none⟩ = some (.int .i64 K) → Calls Try.prog 35 #[.complex .f32 n1 n2, .complex .f32 c1 c2, .pointer (some ⟨p, 0, none⟩)] w fun e w' => e = .returned (.complex .f32 z1 z2) ∧ w' = w)
    : Calls Try.prog 22 #[.agg #[.int .i64 P, .complex .f32 o1 o2, .complex .f32 h1 h2, .int .i64 K, .complex .f32 l1 l2, .complex .f32 m1 m2, .complex .f32 n1 n2, .int .i64 U], .agg #[.complex .f32 a1 a2, .complex .f32 b1 b2, .complex .f32 c1 c2]] w fun e w' => e = .returned (.agg #[.complex .f32 x1 x2, .complex .f32 y1 y2, .complex .f32 z1 z2]) ∧ Ext w w' := by
  go_enter Try.func22, Try.ntmps22
  go_wp2_with fail
  have hK : (((w.alloc (.cells #[.int .i64 P, .complex .f32 o1 o2, .complex .f32 h1 h2, .int .i64 K, .complex .f32 l1 l2, .complex .f32 m1 m2, .complex .f32 n1 n2, .int .i64 U] 44)).alloc (.cells #[.complex .f32 a1 a2, .complex .f32 b1 b2, .complex .f32 c1 c2] 26)).alloc (.cells #[.complex .f32 0 0, .complex .f32 0 0, .complex .f32 0 0] 26)).cell? ⟨w.heap.size, 3, none⟩ = some (.int .i64 K) := by go_simp
  have hR : (((w.alloc (.cells #[.int .i64 P, .complex .f32 o1 o2, .complex .f32 h1 h2, .int .i64 K, .complex .f32 l1 l2, .complex .f32 m1 m2, .complex .f32 n1 n2, .int .i64 U] 44)).alloc (.cells #[.complex .f32 a1 a2, .complex .f32 b1 b2, .complex .f32 c1 c2] 26)).alloc (.cells #[.complex .f32 0 0, .complex .f32 0 0, .complex .f32 0 0] 26)).heap[w.heap.size + 2]? = some (.cells #[.complex .f32 0 0, .complex .f32 0 0, .complex .f32 0 0] 26 (0, 0)) := heap_alloc_at _ _ _ (by simp)
  have hE : Ext w (((w.alloc (.cells #[.int .i64 P, .complex .f32 o1 o2, .complex .f32 h1 h2, .int .i64 K, .complex .f32 l1 l2, .complex .f32 m1 m2, .complex .f32 n1 n2, .int .i64 U] 44)).alloc (.cells #[.complex .f32 a1 a2, .complex .f32 b1 b2, .complex .f32 c1 c2] 26)).alloc (.cells #[.complex .f32 0 0, .complex .f32 0 0, .complex .f32 0 0] 26)) := (((Ext.refl w).alloc _).alloc _).alloc _
  generalize (((w.alloc (.cells #[.int .i64 P, .complex .f32 o1 o2, .complex .f32 h1 h2, .int .i64 K, .complex .f32 l1 l2, .complex .f32 m1 m2, .complex .f32 n1 n2, .int .i64 U] 44)).alloc (.cells #[.complex .f32 a1 a2, .complex .f32 b1 b2, .complex .f32 c1 c2] 26)).alloc (.cells #[.complex .f32 0 0, .complex .f32 0 0, .complex .f32 0 0] 26)) = W at *
  have F := each_load l1 l2 m1 m2 n1 n2 a1 a2 b1 b2 c1 c2 x1 x2 y1 y2 z1 z2 ⟨w.heap.size, 0, none⟩ W
    (fun w' he => (g1 _ w' (he.cell hK)).mono fun _ _ ⟨h, h'⟩ => ⟨h, Ext.of_eq h'⟩) (fun w' he => (g2 _ w' (he.cell hK)).mono fun _ _ ⟨h, h'⟩ => ⟨h, Ext.of_eq h'⟩) (fun w' he => (g3 _ w' (he.cell hK)).mono fun _ _ ⟨h, h'⟩ => ⟨h, Ext.of_eq h'⟩)
  clear g1 g2 g3
  refine F.mono ?_
  clear F
  rintro e W' ⟨rfl, hW'⟩
  have hR' := hW'.heap hR
  have hE' := hE.trans hW'
  have c0 := cell_of_heap (i := 0) hR' rfl
  have c1 := cell_of_heap (i := 1) hR' rfl
  have c2 := cell_of_heap (i := 2) hR' rfl
  have r0 := free_of_heap 0 hR'
  have r1 := free_of_heap 1 hR'
  have r2 := free_of_heap 2 hR'
  clear hR hE hW' hR' hK
  go_wp2
  exact bodyPost_ret (v := .agg #[.complex .f32 x1 x2, .complex .f32 y1 y2, .complex .f32 z1 z2]) (by simp [results, Try.results22, go_sem, c0, c1, c2]) rfl
    ⟨rfl, ((Ext.setCell hE' (by dsimp only; omega) _).setCell (by dsimp only; omega) _).setCell (by dsimp only; omega) _⟩

set_option maxHeartbeats 1000000 in
theorem three_calls (a1 a2 b1 b2 c1 c2 : Nat) (w : World) :
    Calls Try.prog 38 #[.agg #[.complex .f32 a1 a2, .complex .f32 b1 b2, .complex .f32 c1 c2]] w fun e w' => e = .returned (.agg #[.complex .f32 a1 a2, .complex .f32 b1 b2, .complex .f32 c1 c2]) ∧ Ext w w' := by
  go_enter Try.func38, Try.ntmps38
  go_wp2
  exact bodyPost_ret (v := .agg #[.complex .f32 a1 a2, .complex .f32 b1 b2, .complex .f32 c1 c2]) (by simp [results, Try.results38, go_sem]) rfl ⟨rfl, ((Ext.refl _).alloc _).alloc _⟩
end Go.Proofs.Ytacigddenamphaa
