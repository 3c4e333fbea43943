/- The walks over what a line takes and what a load draws. -/
import Derived.Test.YtacigddenamphaaWk8
namespace Go.Proofs.Ytacigddenamphaa
open Go.RowKit

set_option maxHeartbeats 1000000 in
theorem drop_calls (P K U : Int) (o1 o2 h1 h2 l1 l2 m1 m2 n1 n2 : Nat) (a1 a2 b1 b2 c1 c2 x1 x2 y1 y2 z1 z2 : Nat) (w : World)
    (g1 : ∀ (p : Nat) w, w.cell? ⟨p, 1, none⟩ = some (.complex .f32 o1 o2) → w.cell? ⟨p, 2, none⟩ = some (.complex .f32 h1 h2) →
      Calls Try.prog 31 #[.complex .f32 a1 a2, .complex .f32 b1 b2, .complex .f32 c1 c2, .pointer (some ⟨p, 0, none⟩)] w fun e w' => e = .returned (.complex .f32 x1 x2) ∧ Ext w w')
    (g2 : ∀ (p : Nat) w, w.cell? ⟨p, 1, none⟩ = some (.complex .f32 o1 o2) → w.cell? ⟨p, 2, none⟩ = some (.complex .f32 h1 h2) →
      Calls Try.prog 31 #[.complex .f32 b1 b2, .complex .f32 c1 c2, .complex .f32 a1 a2, .pointer (some ⟨p, 0, none⟩)] w fun e w' => e = .returned (.complex .f32 y1 y2) ∧ Ext w w')
    (g3 : ∀ (p : Nat) w, w.cell? ⟨p, 1, none⟩ = some (.complex .f32 o1 o2) → w.cell? ⟨p, 2, none⟩ = some (.complex .f32 h1 h2) →
      Calls Try.prog 31 #[.complex .f32 c1 c2, .complex .f32 a1 a2, .complex .f32 b1 b2, .pointer (some ⟨p, 0, none⟩)] w fun e w' => e = .returned (.complex .f32 z1 z2) ∧ Ext w w') :
    Calls Try.prog 18 #[.agg #[.int .i64 P, .complex .f32 o1 o2, .complex .f32 h1 h2, .int .i64 K, .complex .f32 l1 l2, .complex .f32 m1 m2, .complex .f32 n1 n2, .int .i64 U], .agg #[.complex .f32 a1 a2, .complex .f32 b1 b2, .complex .f32 c1 c2]] w fun e w' => e = .returned (.agg #[.complex .f32 x1 x2, .complex .f32 y1 y2, .complex .f32 z1 z2]) ∧ Ext w w' := by
  have G1 := Lib.hid g1; have G2 := Lib.hid g2; have G3 := Lib.hid g3
  clear g1 g2 g3
  go_enter Try.func18, Try.ntmps18
  go_wp2_with fail
  have hO : ((((w.alloc (.cells #[.int .i64 P, .complex .f32 o1 o2, .complex .f32 h1 h2, .int .i64 K, .complex .f32 l1 l2, .complex .f32 m1 m2, .complex .f32 n1 n2, .int .i64 U] 44)).alloc (.cells #[.complex .f32 a1 a2, .complex .f32 b1 b2, .complex .f32 c1 c2] 26)).alloc (.cells #[.complex .f32 0 0, .complex .f32 0 0, .complex .f32 0 0] 26)).alloc (.cells #[.complex .f32 a1 a2, .complex .f32 b1 b2, .complex .f32 c1 c2] 26)).cell? ⟨w.heap.size, 1, none⟩ = some (.complex .f32 o1 o2) := by go_simp
  have hH : ((((w.alloc (.cells #[.int .i64 P, .complex .f32 o1 o2, .complex .f32 h1 h2, .int .i64 K, .complex .f32 l1 l2, .complex .f32 m1 m2, .complex .f32 n1 n2, .int .i64 U] 44)).alloc (.cells #[.complex .f32 a1 a2, .complex .f32 b1 b2, .complex .f32 c1 c2] 26)).alloc (.cells #[.complex .f32 0 0, .complex .f32 0 0, .complex .f32 0 0] 26)).alloc (.cells #[.complex .f32 a1 a2, .complex .f32 b1 b2, .complex .f32 c1 c2] 26)).cell? ⟨w.heap.size, 2, none⟩ = some (.complex .f32 h1 h2) := by go_simp
  have hA0 : ∀ e, (xw ((((w.alloc (.cells #[.int .i64 P, .complex .f32 o1 o2, .complex .f32 h1 h2, .int .i64 K, .complex .f32 l1 l2, .complex .f32 m1 m2, .complex .f32 n1 n2, .int .i64 U] 44)).alloc (.cells #[.complex .f32 a1 a2, .complex .f32 b1 b2, .complex .f32 c1 c2] 26)).alloc (.cells #[.complex .f32 0 0, .complex .f32 0 0, .complex .f32 0 0] 26)).alloc (.cells #[.complex .f32 a1 a2, .complex .f32 b1 b2, .complex .f32 c1 c2] 26)) e).cell? ⟨w.heap.size + 3, 0, none⟩ = some (.complex .f32 a1 a2) := xw_cell (by go_simp)
  have hA1 : ∀ e, (xw ((((w.alloc (.cells #[.int .i64 P, .complex .f32 o1 o2, .complex .f32 h1 h2, .int .i64 K, .complex .f32 l1 l2, .complex .f32 m1 m2, .complex .f32 n1 n2, .int .i64 U] 44)).alloc (.cells #[.complex .f32 a1 a2, .complex .f32 b1 b2, .complex .f32 c1 c2] 26)).alloc (.cells #[.complex .f32 0 0, .complex .f32 0 0, .complex .f32 0 0] 26)).alloc (.cells #[.complex .f32 a1 a2, .complex .f32 b1 b2, .complex .f32 c1 c2] 26)) e).cell? ⟨w.heap.size + 3, 1, none⟩ = some (.complex .f32 b1 b2) := xw_cell (by go_simp)
  have hA2 : ∀ e, (xw ((((w.alloc (.cells #[.int .i64 P, .complex .f32 o1 o2, .complex .f32 h1 h2, .int .i64 K, .complex .f32 l1 l2, .complex .f32 m1 m2, .complex .f32 n1 n2, .int .i64 U] 44)).alloc (.cells #[.complex .f32 a1 a2, .complex .f32 b1 b2, .complex .f32 c1 c2] 26)).alloc (.cells #[.complex .f32 0 0, .complex .f32 0 0, .complex .f32 0 0] 26)).alloc (.cells #[.complex .f32 a1 a2, .complex .f32 b1 b2, .complex .f32 c1 c2] 26)) e).cell? ⟨w.heap.size + 3, 2, none⟩ = some (.complex .f32 c1 c2) := xw_cell (by go_simp)
  have hR : ((((w.alloc (.cells #[.int .i64 P, .complex .f32 o1 o2, .complex .f32 h1 h2, .int .i64 K, .complex .f32 l1 l2, .complex .f32 m1 m2, .complex .f32 n1 n2, .int .i64 U] 44)).alloc (.cells #[.complex .f32 a1 a2, .complex .f32 b1 b2, .complex .f32 c1 c2] 26)).alloc (.cells #[.complex .f32 0 0, .complex .f32 0 0, .complex .f32 0 0] 26)).alloc (.cells #[.complex .f32 a1 a2, .complex .f32 b1 b2, .complex .f32 c1 c2] 26)).heap[w.heap.size + 2]? = some (.cells #[.complex .f32 0 0, .complex .f32 0 0, .complex .f32 0 0] 26 (0, 0)) := heap_alloc_old _ (heap_alloc_at _ _ _ (by simp))
  have hE : Ext w ((((w.alloc (.cells #[.int .i64 P, .complex .f32 o1 o2, .complex .f32 h1 h2, .int .i64 K, .complex .f32 l1 l2, .complex .f32 m1 m2, .complex .f32 n1 n2, .int .i64 U] 44)).alloc (.cells #[.complex .f32 a1 a2, .complex .f32 b1 b2, .complex .f32 c1 c2] 26)).alloc (.cells #[.complex .f32 0 0, .complex .f32 0 0, .complex .f32 0 0] 26)).alloc (.cells #[.complex .f32 a1 a2, .complex .f32 b1 b2, .complex .f32 c1 c2] 26)) := ((((Ext.refl w).alloc _).alloc _).alloc _).alloc _
  generalize ((((w.alloc (.cells #[.int .i64 P, .complex .f32 o1 o2, .complex .f32 h1 h2, .int .i64 K, .complex .f32 l1 l2, .complex .f32 m1 m2, .complex .f32 n1 n2, .int .i64 U] 44)).alloc (.cells #[.complex .f32 a1 a2, .complex .f32 b1 b2, .complex .f32 c1 c2] 26)).alloc (.cells #[.complex .f32 0 0, .complex .f32 0 0, .complex .f32 0 0] 26)).alloc (.cells #[.complex .f32 a1 a2, .complex .f32 b1 b2, .complex .f32 c1 c2] 26)) = W at *
  have HO := Lib.hid (xw_cell hO)
  have HH := Lib.hid (xw_cell hH)
  clear hO hH
  refine wp_region_xw_tail 25 (by kernel_rfl) (by kernel_rfl) ?_
  simp only [List.take_succ_cons, List.take_zero, List.drop_succ_cons, List.drop_zero]
  repeat (go_big_quiet_step ((go_at_call 31; first | (with_reducible exact call_ext (G1.out _ _ (HO.out _) (HH.out _))) | (with_reducible exact call_ext (G2.out _ _ (HO.out _) (HH.out _))) | (with_reducible exact call_ext (G3.out _ _ (HO.out _) (HH.out _))))))
  refine wpQuiet_nil ?_
  intro W' hW'
  have hR' := hW'.heap hR
  have hE' := hE.trans hW'
  have c0 := cell_of_heap (i := 0) hR' rfl
  have c1 := cell_of_heap (i := 1) hR' rfl
  have c2 := cell_of_heap (i := 2) hR' rfl
  have r0 := free_of_heap 0 hR'
  have r1 := free_of_heap 1 hR'
  have r2 := free_of_heap 2 hR'
  clear hA0 hA1 hA2 HO HH hR hE hW' hR'
  go_wp2
  exact bodyPost_ret (v := .agg #[.complex .f32 x1 x2, .complex .f32 y1 y2, .complex .f32 z1 z2]) (by simp [results, Try.results18, go_sem, c0, c1, c2]) rfl
    ⟨rfl, ((Ext.setCell hE' (by dsimp only; omega) _).setCell (by dsimp only; omega) _).setCell (by dsimp only; omega) _⟩
end Go.Proofs.Ytacigddenamphaa
