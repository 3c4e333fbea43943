/- The walks over what makes phases of phases, phase by phase. -/
import Derived.Test.YtacigddenamphaaWk6
namespace Go.Proofs.Ytacigddenamphaa
open Go.RowKit

set_option maxHeartbeats 1000000 in
theorem each_plus (a1 a2 b1 b2 c1 c2 d1 d2 e1 e2 f1 f2 x1 x2 y1 y2 z1 z2 : Nat) (w : World)
    (g1 : ∀ w', Ext w w' → Calls Try.prog 33 #[.complex .f32 a1 a2, .complex .f32 d1 d2] w' fun e w'' => e = .returned (.complex .f32 x1 x2) ∧ Ext w' w'')
    (g2 : ∀ w', Ext w w' → Calls Try.prog 33 #[.complex .f32 b1 b2, .complex .f32 e1 e2] w' fun e w'' => e = .returned (.complex .f32 y1 y2) ∧ Ext w' w'')
    (g3 : ∀ w', Ext w w' → Calls Try.prog 33 #[.complex .f32 c1 c2, .complex .f32 f1 f2] w' fun e w'' => e = .returned (.complex .f32 z1 z2) ∧ Ext w' w'') :
    Calls Try.prog 32 #[.agg #[.complex .f32 a1 a2, .complex .f32 b1 b2, .complex .f32 c1 c2], .agg #[.complex .f32 d1 d2, .complex .f32 e1 e2, .complex .f32 f1 f2], .func (.func 33) #[] #[]] w fun e w' => e = .returned (.agg #[.complex .f32 x1 x2, .complex .f32 y1 y2, .complex .f32 z1 z2]) ∧ Ext w w' := by
  have G1 := Lib.hid g1; have G2 := Lib.hid g2; have G3 := Lib.hid g3
  clear g1 g2 g3
  go_enter Try.func32, Try.ntmps32
  go_wp2_with fail
  have hA0 : ∀ e, (xw (((w.alloc (.cells #[.complex .f32 a1 a2, .complex .f32 b1 b2, .complex .f32 c1 c2] 26)).alloc (.cells #[.complex .f32 d1 d2, .complex .f32 e1 e2, .complex .f32 f1 f2] 26)).alloc (.cells #[.complex .f32 0 0, .complex .f32 0 0, .complex .f32 0 0] 26)) e).cell? ⟨w.heap.size, 0, none⟩ = some (.complex .f32 a1 a2) := xw_cell (by go_simp)
  have hA1 : ∀ e, (xw (((w.alloc (.cells #[.complex .f32 a1 a2, .complex .f32 b1 b2, .complex .f32 c1 c2] 26)).alloc (.cells #[.complex .f32 d1 d2, .complex .f32 e1 e2, .complex .f32 f1 f2] 26)).alloc (.cells #[.complex .f32 0 0, .complex .f32 0 0, .complex .f32 0 0] 26)) e).cell? ⟨w.heap.size, 1, none⟩ = some (.complex .f32 b1 b2) := xw_cell (by go_simp)
  have hA2 : ∀ e, (xw (((w.alloc (.cells #[.complex .f32 a1 a2, .complex .f32 b1 b2, .complex .f32 c1 c2] 26)).alloc (.cells #[.complex .f32 d1 d2, .complex .f32 e1 e2, .complex .f32 f1 f2] 26)).alloc (.cells #[.complex .f32 0 0, .complex .f32 0 0, .complex .f32 0 0] 26)) e).cell? ⟨w.heap.size, 2, none⟩ = some (.complex .f32 c1 c2) := xw_cell (by go_simp)
  have hB0 : ∀ e, (xw (((w.alloc (.cells #[.complex .f32 a1 a2, .complex .f32 b1 b2, .complex .f32 c1 c2] 26)).alloc (.cells #[.complex .f32 d1 d2, .complex .f32 e1 e2, .complex .f32 f1 f2] 26)).alloc (.cells #[.complex .f32 0 0, .complex .f32 0 0, .complex .f32 0 0] 26)) e).cell? ⟨w.heap.size + 1, 0, none⟩ = some (.complex .f32 d1 d2) := xw_cell (by go_simp)
  have hB1 : ∀ e, (xw (((w.alloc (.cells #[.complex .f32 a1 a2, .complex .f32 b1 b2, .complex .f32 c1 c2] 26)).alloc (.cells #[.complex .f32 d1 d2, .complex .f32 e1 e2, .complex .f32 f1 f2] 26)).alloc (.cells #[.complex .f32 0 0, .complex .f32 0 0, .complex .f32 0 0] 26)) e).cell? ⟨w.heap.size + 1, 1, none⟩ = some (.complex .f32 e1 e2) := xw_cell (by go_simp)
  have hB2 : ∀ e, (xw (((w.alloc (.cells #[.complex .f32 a1 a2, .complex .f32 b1 b2, .complex .f32 c1 c2] 26)).alloc (.cells #[.complex .f32 d1 d2, .complex .f32 e1 e2, .complex .f32 f1 f2] 26)).alloc (.cells #[.complex .f32 0 0, .complex .f32 0 0, .complex .f32 0 0] 26)) e).cell? ⟨w.heap.size + 1, 2, none⟩ = some (.complex .f32 f1 f2) := xw_cell (by go_simp)
  have hR : (((w.alloc (.cells #[.complex .f32 a1 a2, .complex .f32 b1 b2, .complex .f32 c1 c2] 26)).alloc (.cells #[.complex .f32 d1 d2, .complex .f32 e1 e2, .complex .f32 f1 f2] 26)).alloc (.cells #[.complex .f32 0 0, .complex .f32 0 0, .complex .f32 0 0] 26)).heap[w.heap.size + 2]? = some (.cells #[.complex .f32 0 0, .complex .f32 0 0, .complex .f32 0 0] 26 (0, 0)) := heap_alloc_at _ _ _ (by simp)
  have hE : Ext w (((w.alloc (.cells #[.complex .f32 a1 a2, .complex .f32 b1 b2, .complex .f32 c1 c2] 26)).alloc (.cells #[.complex .f32 d1 d2, .complex .f32 e1 e2, .complex .f32 f1 f2] 26)).alloc (.cells #[.complex .f32 0 0, .complex .f32 0 0, .complex .f32 0 0] 26)) := (((Ext.refl w).alloc _).alloc _).alloc _
  generalize (((w.alloc (.cells #[.complex .f32 a1 a2, .complex .f32 b1 b2, .complex .f32 c1 c2] 26)).alloc (.cells #[.complex .f32 d1 d2, .complex .f32 e1 e2, .complex .f32 f1 f2] 26)).alloc (.cells #[.complex .f32 0 0, .complex .f32 0 0, .complex .f32 0 0] 26)) = W at *
  refine wp_region_xw_tail 19 (by kernel_rfl) (by kernel_rfl) ?_
  simp only [List.take_succ_cons, List.take_zero, List.drop_succ_cons, List.drop_zero]
  repeat (go_big_quiet_step ((go_at_call 33; first | (with_reducible exact call_ext (G1.out _ (hE.trans (xw_ext _ _)))) | (with_reducible exact call_ext (G2.out _ (hE.trans (xw_ext _ _)))) | (with_reducible exact call_ext (G3.out _ (hE.trans (xw_ext _ _)))))))
  refine wpQuiet_nil ?_
  intro W' hW'
  have hR' := hW'.heap hR
  have hE' := hE.trans hW'
  have c0 := cell_of_heap (i := 0) hR' rfl
  have c1 := cell_of_heap (i := 1) hR' rfl
  have c2 := cell_of_heap (i := 2) hR' rfl
  have r0 := free_of_heap 0 hR'
  have r1 := free_of_heap 1 hR'
  have r2 := free_of_heap 2 hR'
  clear hA0 hA1 hA2 hB0 hB1 hB2 hR hE hW' hR'
  go_wp2
  exact bodyPost_ret (v := .agg #[.complex .f32 x1 x2, .complex .f32 y1 y2, .complex .f32 z1 z2]) (by simp [results, Try.results32, go_sem, c0, c1, c2]) rfl
    ⟨rfl, ((Ext.setCell hE' (by dsimp only; omega) _).setCell (by dsimp only; omega) _).setCell (by dsimp only; omega) _⟩

set_option maxHeartbeats 1000000 in
theorem each_minus (a1 a2 b1 b2 c1 c2 d1 d2 e1 e2 f1 f2 x1 x2 y1 y2 z1 z2 : Nat) (w : World)
    (g1 : ∀ w', Ext w w' → Calls Try.prog 34 #[.complex .f32 a1 a2, .complex .f32 d1 d2] w' fun e w'' => e = .returned (.complex .f32 x1 x2) ∧ Ext w' w'')
    (g2 : ∀ w', Ext w w' → Calls Try.prog 34 #[.complex .f32 b1 b2, .complex .f32 e1 e2] w' fun e w'' => e = .returned (.complex .f32 y1 y2) ∧ Ext w' w'')
    (g3 : ∀ w', Ext w w' → Calls Try.prog 34 #[.complex .f32 c1 c2, .complex .f32 f1 f2] w' fun e w'' => e = .returned (.complex .f32 z1 z2) ∧ Ext w' w'') :
    Calls Try.prog 32 #[.agg #[.complex .f32 a1 a2, .complex .f32 b1 b2, .complex .f32 c1 c2], .agg #[.complex .f32 d1 d2, .complex .f32 e1 e2, .complex .f32 f1 f2], .func (.func 34) #[] #[]] w fun e w' => e = .returned (.agg #[.complex .f32 x1 x2, .complex .f32 y1 y2, .complex .f32 z1 z2]) ∧ Ext w w' := by
  have G1 := Lib.hid g1; have G2 := Lib.hid g2; have G3 := Lib.hid g3
  clear g1 g2 g3
  go_enter Try.func32, Try.ntmps32
  go_wp2_with fail
  have hA0 : ∀ e, (xw (((w.alloc (.cells #[.complex .f32 a1 a2, .complex .f32 b1 b2, .complex .f32 c1 c2] 26)).alloc (.cells #[.complex .f32 d1 d2, .complex .f32 e1 e2, .complex .f32 f1 f2] 26)).alloc (.cells #[.complex .f32 0 0, .complex .f32 0 0, .complex .f32 0 0] 26)) e).cell? ⟨w.heap.size, 0, none⟩ = some (.complex .f32 a1 a2) := xw_cell (by go_simp)
  have hA1 : ∀ e, (xw (((w.alloc (.cells #[.complex .f32 a1 a2, .complex .f32 b1 b2, .complex .f32 c1 c2] 26)).alloc (.cells #[.complex .f32 d1 d2, .complex .f32 e1 e2, .complex .f32 f1 f2] 26)).alloc (.cells #[.complex .f32 0 0, .complex .f32 0 0, .complex .f32 0 0] 26)) e).cell? ⟨w.heap.size, 1, none⟩ = some (.complex .f32 b1 b2) := xw_cell (by go_simp)
  have hA2 : ∀ e, (xw (((w.alloc (.cells #[.complex .f32 a1 a2, .complex .f32 b1 b2, .complex .f32 c1 c2] 26)).alloc (.cells #[.complex .f32 d1 d2, .complex .f32 e1 e2, .complex .f32 f1 f2] 26)).alloc (.cells #[.complex .f32 0 0, .complex .f32 0 0, .complex .f32 0 0] 26)) e).cell? ⟨w.heap.size, 2, none⟩ = some (.complex .f32 c1 c2) := xw_cell (by go_simp)
  have hB0 : ∀ e, (xw (((w.alloc (.cells #[.complex .f32 a1 a2, .complex .f32 b1 b2, .complex .f32 c1 c2] 26)).alloc (.cells #[.complex .f32 d1 d2, .complex .f32 e1 e2, .complex .f32 f1 f2] 26)).alloc (.cells #[.complex .f32 0 0, .complex .f32 0 0, .complex .f32 0 0] 26)) e).cell? ⟨w.heap.size + 1, 0, none⟩ = some (.complex .f32 d1 d2) := xw_cell (by go_simp)
  have hB1 : ∀ e, (xw (((w.alloc (.cells #[.complex .f32 a1 a2, .complex .f32 b1 b2, .complex .f32 c1 c2] 26)).alloc (.cells #[.complex .f32 d1 d2, .complex .f32 e1 e2, .complex .f32 f1 f2] 26)).alloc (.cells #[.complex .f32 0 0, .complex .f32 0 0, .complex .f32 0 0] 26)) e).cell? ⟨w.heap.size + 1, 1, none⟩ = some (.complex .f32 e1 e2) := xw_cell (by go_simp)
  have hB2 : ∀ e, (xw (((w.alloc (.cells #[.complex .f32 a1 a2, .complex .f32 b1 b2, .complex .f32 c1 c2] 26)).alloc (.cells #[.complex .f32 d1 d2, .complex .f32 e1 e2, .complex .f32 f1 f2] 26)).alloc (.cells #[.complex .f32 0 0, .complex .f32 0 0, .complex .f32 0 0] 26)) e).cell? ⟨w.heap.size + 1, 2, none⟩ = some (.complex .f32 f1 f2) := xw_cell (by go_simp)
  have hR : (((w.alloc (.cells #[.complex .f32 a1 a2, .complex .f32 b1 b2, .complex .f32 c1 c2] 26)).alloc (.cells #[.complex .f32 d1 d2, .complex .f32 e1 e2, .complex .f32 f1 f2] 26)).alloc (.cells #[.complex .f32 0 0, .complex .f32 0 0, .complex .f32 0 0] 26)).heap[w.heap.size + 2]? = some (.cells #[.complex .f32 0 0, .complex .f32 0 0, .complex .f32 0 0] 26 (0, 0)) := heap_alloc_at _ _ _ (by simp)
  have hE : Ext w (((w.alloc (.cells #[.complex .f32 a1 a2, .complex .f32 b1 b2, .complex .f32 c1 c2] 26)).alloc (.cells #[.complex .f32 d1 d2, .complex .f32 e1 e2, .complex .f32 f1 f2] 26)).alloc (.cells #[.complex .f32 0 0, .complex .f32 0 0, .complex .f32 0 0] 26)) := (((Ext.refl w).alloc _).alloc _).alloc _
  generalize (((w.alloc (.cells #[.complex .f32 a1 a2, .complex .f32 b1 b2, .complex .f32 c1 c2] 26)).alloc (.cells #[.complex .f32 d1 d2, .complex .f32 e1 e2, .complex .f32 f1 f2] 26)).alloc (.cells #[.complex .f32 0 0, .complex .f32 0 0, .complex .f32 0 0] 26)) = W at *
  refine wp_region_xw_tail 19 (by kernel_rfl) (by kernel_rfl) ?_
  simp only [List.take_succ_cons, List.take_zero, List.drop_succ_cons, List.drop_zero]
  repeat (go_big_quiet_step ((go_at_call 34; first | (with_reducible exact call_ext (G1.out _ (hE.trans (xw_ext _ _)))) | (with_reducible exact call_ext (G2.out _ (hE.trans (xw_ext _ _)))) | (with_reducible exact call_ext (G3.out _ (hE.trans (xw_ext _ _)))))))
  refine wpQuiet_nil ?_
  intro W' hW'
  have hR' := hW'.heap hR
  have hE' := hE.trans hW'
  have c0 := cell_of_heap (i := 0) hR' rfl
  have c1 := cell_of_heap (i := 1) hR' rfl
  have c2 := cell_of_heap (i := 2) hR' rfl
  have r0 := free_of_heap 0 hR'
  have r1 := free_of_heap 1 hR'
  have r2 := free_of_heap 2 hR'
  clear hA0 hA1 hA2 hB0 hB1 hB2 hR hE hW' hR'
  go_wp2
  exact bodyPost_ret (v := .agg #[.complex .f32 x1 x2, .complex .f32 y1 y2, .complex .f32 z1 z2]) (by simp [results, Try.results32, go_sem, c0, c1, c2]) rfl
    ⟨rfl, ((Ext.setCell hE' (by dsimp only; omega) _).setCell (by dsimp only; omega) _).setCell (by dsimp only; omega) _⟩

set_option maxHeartbeats 1000000 in
theorem add_calls (a1 a2 b1 b2 c1 c2 d1 d2 e1 e2 f1 f2 x1 x2 y1 y2 z1 z2 : Nat) (w : World)
    (g1 : ∀ w, Calls Try.prog 33 #[.complex .f32 a1 a2, .complex .f32 d1 d2] w fun e w' => e = .returned (.complex .f32 x1 x2) ∧ w' = w)
    (g2 : ∀ w, Calls Try.prog 33 #[.complex .f32 b1 b2, .complex .f32 e1 e2] w fun e w' => e = .returned (.complex .f32 y1 y2) ∧ w' = w)
    (g3 : ∀ w, Calls Try.prog 33 #[.complex .f32 c1 c2, .complex .f32 f1 f2] w fun e w' => e = .returned (.complex .f32 z1 z2) ∧ w' = w) :
    Calls Try.prog 19 #[.agg #[.complex .f32 a1 a2, .complex .f32 b1 b2, .complex .f32 c1 c2], .agg #[.complex .f32 d1 d2, .complex .f32 e1 e2, .complex .f32 f1 f2]] w fun e w' => e = .returned (.agg #[.complex .f32 x1 x2, .complex .f32 y1 y2, .complex .f32 z1 z2]) ∧ Ext w w' := by
  have F := Lib.hid (fun w => each_plus a1 a2 b1 b2 c1 c2 d1 d2 e1 e2 f1 f2 x1 x2 y1 y2 z1 z2 w
    (fun w' _ => (g1 w').mono fun _ _ ⟨h, h'⟩ => ⟨h, Ext.of_eq h'⟩) (fun w' _ => (g2 w').mono fun _ _ ⟨h, h'⟩ => ⟨h, Ext.of_eq h'⟩) (fun w' _ => (g3 w').mono fun _ _ ⟨h, h'⟩ => ⟨h, Ext.of_eq h'⟩))
  clear g1 g2 g3
  go_enter Try.func19, Try.ntmps19
  go_wp2_with fail
  have hR : (((w.alloc (.cells #[.complex .f32 a1 a2, .complex .f32 b1 b2, .complex .f32 c1 c2] 26)).alloc (.cells #[.complex .f32 d1 d2, .complex .f32 e1 e2, .complex .f32 f1 f2] 26)).alloc (.cells #[.complex .f32 0 0, .complex .f32 0 0, .complex .f32 0 0] 26)).heap[w.heap.size + 2]? = some (.cells #[.complex .f32 0 0, .complex .f32 0 0, .complex .f32 0 0] 26 (0, 0)) := heap_alloc_at _ _ _ (by simp)
  have hE : Ext w (((w.alloc (.cells #[.complex .f32 a1 a2, .complex .f32 b1 b2, .complex .f32 c1 c2] 26)).alloc (.cells #[.complex .f32 d1 d2, .complex .f32 e1 e2, .complex .f32 f1 f2] 26)).alloc (.cells #[.complex .f32 0 0, .complex .f32 0 0, .complex .f32 0 0] 26)) := (((Ext.refl w).alloc _).alloc _).alloc _
  generalize (((w.alloc (.cells #[.complex .f32 a1 a2, .complex .f32 b1 b2, .complex .f32 c1 c2] 26)).alloc (.cells #[.complex .f32 d1 d2, .complex .f32 e1 e2, .complex .f32 f1 f2] 26)).alloc (.cells #[.complex .f32 0 0, .complex .f32 0 0, .complex .f32 0 0] 26)) = W at *
  refine (F.out _).mono ?_
  rintro e W' ⟨rfl, hW'⟩
  have hR' := hW'.heap hR
  have hE' := hE.trans hW'
  have c0 := cell_of_heap (i := 0) hR' rfl
  have c1 := cell_of_heap (i := 1) hR' rfl
  have c2 := cell_of_heap (i := 2) hR' rfl
  have r0 := free_of_heap 0 hR'
  have r1 := free_of_heap 1 hR'
  have r2 := free_of_heap 2 hR'
  clear hR hE hW' hR'
  go_wp2
  exact bodyPost_ret (v := .agg #[.complex .f32 x1 x2, .complex .f32 y1 y2, .complex .f32 z1 z2]) (by simp [results, Try.results19, go_sem, c0, c1, c2]) rfl
    ⟨rfl, ((Ext.setCell hE' (by dsimp only; omega) _).setCell (by dsimp only; omega) _).setCell (by dsimp only; omega) _⟩

set_option maxHeartbeats 1000000 in
theorem less_calls (a1 a2 b1 b2 c1 c2 d1 d2 e1 e2 f1 f2 x1 x2 y1 y2 z1 z2 : Nat) (w : World)
    (g1 : ∀ w, Calls Try.prog 34 #[.complex .f32 a1 a2, .complex .f32 d1 d2] w fun e w' => e = .returned (.complex .f32 x1 x2) ∧ w' = w)
    (g2 : ∀ w, Calls Try.prog 34 #[.complex .f32 b1 b2, .complex .f32 e1 e2] w fun e w' => e = .returned (.complex .f32 y1 y2) ∧ w' = w)
    (g3 : ∀ w, Calls Try.prog 34 #[.complex .f32 c1 c2, .complex .f32 f1 f2] w fun e w' => e = .returned (.complex .f32 z1 z2) ∧ w' = w) :
    Calls Try.prog 20 #[.agg #[.complex .f32 a1 a2, .complex .f32 b1 b2, .complex .f32 c1 c2], .agg #[.complex .f32 d1 d2, .complex .f32 e1 e2, .complex .f32 f1 f2]] w fun e w' => e = .returned (.agg #[.complex .f32 x1 x2, .complex .f32 y1 y2, .complex .f32 z1 z2]) ∧ Ext w w' := by
  have F := Lib.hid (fun w => each_minus a1 a2 b1 b2 c1 c2 d1 d2 e1 e2 f1 f2 x1 x2 y1 y2 z1 z2 w
    (fun w' _ => (g1 w').mono fun _ _ ⟨h, h'⟩ => ⟨h, Ext.of_eq h'⟩) (fun w' _ => (g2 w').mono fun _ _ ⟨h, h'⟩ => ⟨h, Ext.of_eq h'⟩) (fun w' _ => (g3 w').mono fun _ _ ⟨h, h'⟩ => ⟨h, Ext.of_eq h'⟩))
  clear g1 g2 g3
  go_enter Try.func20, Try.ntmps20
  go_wp2_with fail
  have hR : (((w.alloc (.cells #[.complex .f32 a1 a2, .complex .f32 b1 b2, .complex .f32 c1 c2] 26)).alloc (.cells #[.complex .f32 d1 d2, .complex .f32 e1 e2, .complex .f32 f1 f2] 26)).alloc (.cells #[.complex .f32 0 0, .complex .f32 0 0, .complex .f32 0 0] 26)).heap[w.heap.size + 2]? = some (.cells #[.complex .f32 0 0, .complex .f32 0 0, .complex .f32 0 0] 26 (0, 0)) := heap_alloc_at _ _ _ (by simp)
  have hE : Ext w (((w.alloc (.cells #[.complex .f32 a1 a2, .complex .f32 b1 b2, .complex .f32 c1 c2] 26)).alloc (.cells #[.complex .f32 d1 d2, .complex .f32 e1 e2, .complex .f32 f1 f2] 26)).alloc (.cells #[.complex .f32 0 0, .complex .f32 0 0, .complex .f32 0 0] 26)) := (((Ext.refl w).alloc _).alloc _).alloc _
  generalize (((w.alloc (.cells #[.complex .f32 a1 a2, .complex .f32 b1 b2, .complex .f32 c1 c2] 26)).alloc (.cells #[.complex .f32 d1 d2, .complex .f32 e1 e2, .complex .f32 f1 f2] 26)).alloc (.cells #[.complex .f32 0 0, .complex .f32 0 0, .complex .f32 0 0] 26)) = W at *
  refine (F.out _).mono ?_
  rintro e W' ⟨rfl, hW'⟩
  have hR' := hW'.heap hR
  have hE' := hE.trans hW'
  have c0 := cell_of_heap (i := 0) hR' rfl
  have c1 := cell_of_heap (i := 1) hR' rfl
  have c2 := cell_of_heap (i := 2) hR' rfl
  have r0 := free_of_heap 0 hR'
  have r1 := free_of_heap 1 hR'
  have r2 := free_of_heap 2 hR'
  clear hR hE hW' hR'
  go_wp2
  exact bodyPost_ret (v := .agg #[.complex .f32 x1 x2, .complex .f32 y1 y2, .complex .f32 z1 z2]) (by simp [results, Try.results20, go_sem, c0, c1, c2]) rfl
    ⟨rfl, ((Ext.setCell hE' (by dsimp only; omega) _).setCell (by dsimp only; omega) _).setCell (by dsimp only; omega) _⟩

set_option maxHeartbeats 1000000 in
theorem scalep_calls (a1 a2 b1 b2 c1 c2 k x1 x2 y1 y2 z1 z2 : Nat) (w : World)
    (g1 : ∀ w, Calls Try.prog 25 #[.complex .f32 a1 a2, .float .f32 k] w fun e w' => e = .returned (.complex .f32 x1 x2) ∧ w' = w)
    (g2 : ∀ w, Calls Try.prog 25 #[.complex .f32 b1 b2, .float .f32 k] w fun e w' => e = .returned (.complex .f32 y1 y2) ∧ w' = w)
    (g3 : ∀ w, Calls Try.prog 25 #[.complex .f32 c1 c2, .float .f32 k] w fun e w' => e = .returned (.complex .f32 z1 z2) ∧ w' = w) :
    Calls Try.prog 21 #[.agg #[.complex .f32 a1 a2, .complex .f32 b1 b2, .complex .f32 c1 c2], .float .f32 k] w fun e w' => e = .returned (.agg #[.complex .f32 x1 x2, .complex .f32 y1 y2, .complex .f32 z1 z2]) ∧ Ext w w' := by
  have G1 := Lib.hid g1; have G2 := Lib.hid g2; have G3 := Lib.hid g3
  clear g1 g2 g3
  go_enter Try.func21, Try.ntmps21
  go_wp2_with fail
  have hA0 : ∀ e, (xw ((w.alloc (.cells #[.complex .f32 a1 a2, .complex .f32 b1 b2, .complex .f32 c1 c2] 26)).alloc (.cells #[.complex .f32 0 0, .complex .f32 0 0, .complex .f32 0 0] 26)) e).cell? ⟨w.heap.size, 0, none⟩ = some (.complex .f32 a1 a2) := xw_cell (by go_simp)
  have hA1 : ∀ e, (xw ((w.alloc (.cells #[.complex .f32 a1 a2, .complex .f32 b1 b2, .complex .f32 c1 c2] 26)).alloc (.cells #[.complex .f32 0 0, .complex .f32 0 0, .complex .f32 0 0] 26)) e).cell? ⟨w.heap.size, 1, none⟩ = some (.complex .f32 b1 b2) := xw_cell (by go_simp)
  have hA2 : ∀ e, (xw ((w.alloc (.cells #[.complex .f32 a1 a2, .complex .f32 b1 b2, .complex .f32 c1 c2] 26)).alloc (.cells #[.complex .f32 0 0, .complex .f32 0 0, .complex .f32 0 0] 26)) e).cell? ⟨w.heap.size, 2, none⟩ = some (.complex .f32 c1 c2) := xw_cell (by go_simp)
  have hR : ((w.alloc (.cells #[.complex .f32 a1 a2, .complex .f32 b1 b2, .complex .f32 c1 c2] 26)).alloc (.cells #[.complex .f32 0 0, .complex .f32 0 0, .complex .f32 0 0] 26)).heap[w.heap.size + 1]? = some (.cells #[.complex .f32 0 0, .complex .f32 0 0, .complex .f32 0 0] 26 (0, 0)) := heap_alloc_at _ _ _ (by simp)
  have hE : Ext w ((w.alloc (.cells #[.complex .f32 a1 a2, .complex .f32 b1 b2, .complex .f32 c1 c2] 26)).alloc (.cells #[.complex .f32 0 0, .complex .f32 0 0, .complex .f32 0 0] 26)) := ((Ext.refl w).alloc _).alloc _
  generalize ((w.alloc (.cells #[.complex .f32 a1 a2, .complex .f32 b1 b2, .complex .f32 c1 c2] 26)).alloc (.cells #[.complex .f32 0 0, .complex .f32 0 0, .complex .f32 0 0] 26)) = W at *
  refine wp_region_xw_tail 13 (by kernel_rfl) (by kernel_rfl) ?_
  simp only [List.take_succ_cons, List.take_zero, List.drop_succ_cons, List.drop_zero]
  repeat (go_big_quiet_step ((go_at_call 25; first | (with_reducible exact call_same (G1.out _)) | (with_reducible exact call_same (G2.out _)) | (with_reducible exact call_same (G3.out _)))))
  refine wpQuiet_nil ?_
  intro W' hW'
  have hR' := hW'.heap hR
  have hE' := hE.trans hW'
  have c0 := cell_of_heap (i := 0) hR' rfl
  have c1 := cell_of_heap (i := 1) hR' rfl
  have c2 := cell_of_heap (i := 2) hR' rfl
  have r0 := free_of_heap 0 hR'
  have r1 := free_of_heap 1 hR'
  have r2 := free_of_heap 2 hR'
  clear hA0 hA1 hA2 hR hE hW' hR'
  go_wp2
  exact bodyPost_ret (v := .agg #[.complex .f32 x1 x2, .complex .f32 y1 y2, .complex .f32 z1 z2]) (by simp [results, Try.results21, go_sem, c0, c1, c2]) rfl
    ⟨rfl, ((Ext.setCell hE' (by dsimp only; omega) _).setCell (by dsimp only; omega) _).setCell (by dsimp only; omega) _⟩

set_option maxHeartbeats 1000000 in
theorem line_calls (o1 o2 h1 h2 a1 a2 b1 b2 c1 c2 m1 m2 s1 s2 n1 n2 r1 r2 : Nat) (p : Nat) (w : World)
    (hO : w.cell? ⟨p, 1, none⟩ = some (.complex .f32 o1 o2)) (hH : w.cell? ⟨p, 2, none⟩ = some (.complex .f32 h1 h2))
    (g1 : ∀ w, Calls Try.prog 26 #[.complex .f32 o1 o2, .complex .f32 a1 a2] w fun e w' => e = .returned (.complex .f32 m1 m2) ∧ w' = w)
    (k1 : floatBits .add .f32 b1 c1 = some s1) (k2 : floatBits .add .f32 b2 c2 = some s2)
    (g2 : ∀ w, Calls Try.prog 26 #[.complex .f32 h1 h2, .complex .f32 s1 s2] w fun e w' => e = .returned (.complex .f32 n1 n2) ∧ w' = w)
    (k3 : floatBits .add .f32 m1 n1 = some r1) (k4 : floatBits .add .f32 m2 n2 = some r2) :
    Calls Try.prog 31 #[.complex .f32 a1 a2, .complex .f32 b1 b2, .complex .f32 c1 c2, .pointer (some ⟨p, 0, none⟩)] w fun e w' => e = .returned (.complex .f32 r1 r2) ∧ Ext w w' := by
  have k1 := fcop (.inl rfl) k1 k2; have k3 := fcop (.inl rfl) k3 k4
  have G1 := Lib.hid g1; have G2 := Lib.hid g2
  clear g1 g2
  go_enter Try.func31, Try.ntmps31
  go_wp2_with fail
  have xO := xw_cell hO
  have xH := xw_cell hH
  clear hO hH
  refine wp_region_xw_all (by kernel_rfl) (by kernel_rfl) ?_
  repeat (go_big_quiet_step ((go_at_call 26; first | (with_reducible exact call_same (G1.out _)) | (with_reducible exact call_same (G2.out _)))))
  refine wpQuiet_nil ?_
  intro W' hW'
  go_wp2
  go_ret
  exact ⟨rfl, hW'⟩
end Go.Proofs.Ytacigddenamphaa
