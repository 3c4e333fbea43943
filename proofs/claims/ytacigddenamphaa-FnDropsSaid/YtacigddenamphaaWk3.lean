/- The walks over the functions on phases and parts. -/
import Derived.Test.YtacigddenamphaaWk2
import Derived.Test.YtacigddenamphaaReg
import Derived.BigQuiet
namespace Go.Proofs.Ytacigddenamphaa
open Go.RowKit

/-- The word of a third. -/
abbrev third : Nat := 1051372203

set_option maxHeartbeats 1000000 in
theorem parts_calls (a1 a2 b1 b2 c1 c2 s1 s2 t1 t2 z1 z2 m1 m2 u1 u2 n1 n2 v1 v2 p1 p2 k1 k2 x1 x2 l1 l2 y1 y2 q1 q2 : Nat) (w : World)
    (h1 : floatBits .add .f32 a1 b1 = some s1) (h2 : floatBits .add .f32 a2 b2 = some s2)
    (h3 : floatBits .add .f32 s1 c1 = some t1) (h4 : floatBits .add .f32 s2 c2 = some t2)
    (f1 : ∀ w, Calls Try.prog 25 #[.complex .f32 t1 t2, .float .f32 1051372203] w fun e w' => e = .returned (.complex .f32 z1 z2) ∧ w' = w)
    (f2 : ∀ w, Calls Try.prog 26 #[.complex .f32 3204448256 1063105495, .complex .f32 b1 b2] w fun e w' => e = .returned (.complex .f32 m1 m2) ∧ w' = w)
    (h5 : floatBits .add .f32 a1 m1 = some u1) (h6 : floatBits .add .f32 a2 m2 = some u2)
    (f3 : ∀ w, Calls Try.prog 26 #[.complex .f32 3204448256 3210589143, .complex .f32 c1 c2] w fun e w' => e = .returned (.complex .f32 n1 n2) ∧ w' = w)
    (h7 : floatBits .add .f32 u1 n1 = some v1) (h8 : floatBits .add .f32 u2 n2 = some v2)
    (f4 : ∀ w, Calls Try.prog 25 #[.complex .f32 v1 v2, .float .f32 1051372203] w fun e w' => e = .returned (.complex .f32 p1 p2) ∧ w' = w)
    (f5 : ∀ w, Calls Try.prog 26 #[.complex .f32 3204448256 3210589143, .complex .f32 b1 b2] w fun e w' => e = .returned (.complex .f32 k1 k2) ∧ w' = w)
    (h9 : floatBits .add .f32 a1 k1 = some x1) (h10 : floatBits .add .f32 a2 k2 = some x2)
    (f6 : ∀ w, Calls Try.prog 26 #[.complex .f32 3204448256 1063105495, .complex .f32 c1 c2] w fun e w' => e = .returned (.complex .f32 l1 l2) ∧ w' = w)
    (h11 : floatBits .add .f32 x1 l1 = some y1) (h12 : floatBits .add .f32 x2 l2 = some y2)
    (f7 : ∀ w, Calls Try.prog 25 #[.complex .f32 y1 y2, .float .f32 1051372203] w fun e w' => e = .returned (.complex .f32 q1 q2) ∧ w' = w) :
    Calls Try.prog 8 #[.agg #[.complex .f32 a1 a2, .complex .f32 b1 b2, .complex .f32 c1 c2]] w fun e w' =>
      e = .returned (.agg #[.complex .f32 z1 z2, .complex .f32 p1 p2, .complex .f32 q1 q2]) ∧ Ext w w' := by
  have h1 := fcop (.inl rfl) h1 h2; have h3 := fcop (.inl rfl) h3 h4; have h5 := fcop (.inl rfl) h5 h6; have h7 := fcop (.inl rfl) h7 h8
  have h9 := fcop (.inl rfl) h9 h10; have h11 := fcop (.inl rfl) h11 h12
  have F1 := Lib.hid f1; have F2 := Lib.hid f2; have F3 := Lib.hid f3; have F4 := Lib.hid f4; have F5 := Lib.hid f5; have F6 := Lib.hid f6; have F7 := Lib.hid f7
  clear f1 f2 f3 f4 f5 f6 f7
  go_enter Try.func8, Try.ntmps8
  go_wp2_with (go_at_call 24; refine (turns_calls _).mono ?_; rintro e w' ⟨rfl, rfl⟩)
  have hA : ∀ e, (xw ((w.alloc (.cells #[.complex .f32 a1 a2, .complex .f32 b1 b2, .complex .f32 c1 c2] 26)).alloc (.cells #[.complex .f32 0 0, .complex .f32 0 0, .complex .f32 0 0] 30)) e).cell? ⟨w.heap.size, 0, none⟩ = some (.complex .f32 a1 a2) := xw_cell (by go_simp)
  have hB : ∀ e, (xw ((w.alloc (.cells #[.complex .f32 a1 a2, .complex .f32 b1 b2, .complex .f32 c1 c2] 26)).alloc (.cells #[.complex .f32 0 0, .complex .f32 0 0, .complex .f32 0 0] 30)) e).cell? ⟨w.heap.size, 1, none⟩ = some (.complex .f32 b1 b2) := xw_cell (by go_simp)
  have hC : ∀ e, (xw ((w.alloc (.cells #[.complex .f32 a1 a2, .complex .f32 b1 b2, .complex .f32 c1 c2] 26)).alloc (.cells #[.complex .f32 0 0, .complex .f32 0 0, .complex .f32 0 0] 30)) e).cell? ⟨w.heap.size, 2, none⟩ = some (.complex .f32 c1 c2) := xw_cell (by go_simp)
  have hR : ((w.alloc (.cells #[.complex .f32 a1 a2, .complex .f32 b1 b2, .complex .f32 c1 c2] 26)).alloc (.cells #[.complex .f32 0 0, .complex .f32 0 0, .complex .f32 0 0] 30)).heap[w.heap.size + 1]? = some (.cells #[.complex .f32 0 0, .complex .f32 0 0, .complex .f32 0 0] 30 (0, 0)) := heap_alloc_at _ _ _ (by simp)
  have hE : Ext w ((w.alloc (.cells #[.complex .f32 a1 a2, .complex .f32 b1 b2, .complex .f32 c1 c2] 26)).alloc (.cells #[.complex .f32 0 0, .complex .f32 0 0, .complex .f32 0 0] 30)) :=
    ((Below.refl _ _).alloc (Nat.le_refl _) _).alloc (by simp) _
  generalize ((w.alloc (.cells #[.complex .f32 a1 a2, .complex .f32 b1 b2, .complex .f32 c1 c2] 26)).alloc (.cells #[.complex .f32 0 0, .complex .f32 0 0, .complex .f32 0 0] 30)) = W at *
  refine wp_region_xw_tail 36 (by kernel_rfl) (by kernel_rfl) ?_
  simp only [List.take_succ_cons, List.take_zero, List.drop_succ_cons, List.drop_zero]
  repeat (go_big_quiet_step (first
    | (go_at_call 25; first | (with_reducible exact call_same (F1.out _)) | (with_reducible exact call_same (F4.out _)) | (with_reducible exact call_same (F7.out _)))
    | (go_at_call 26; first | (with_reducible exact call_same (F2.out _)) | (with_reducible exact call_same (F3.out _)) | (with_reducible exact call_same (F5.out _)) | (with_reducible exact call_same (F6.out _)))))
  refine wpQuiet_nil ?_
  intro W' hW'
  have hR' := hW'.heap hR
  have hE' := hE.trans hW'
  have c0 := cell_of_heap (i := 0) hR' rfl
  have c1 := cell_of_heap (i := 1) hR' rfl
  have c2 := cell_of_heap (i := 2) hR' rfl
  have r0 := free_of_heap 0 hR'
  have r1 := free_of_heap 1 hR'
  have r2 := free_of_heap 2 hR'
  clear hA hB hC hR hE hW'
  go_wp2
  exact bodyPost_ret (v := .agg #[.complex .f32 z1 z2, .complex .f32 p1 p2, .complex .f32 q1 q2]) (by simp [results, Try.results8, go_sem, c0, c1, c2]) rfl
    ⟨rfl, ((Below.setCell hE' (by simp) _).setCell (by simp) _).setCell (by simp) _⟩
end Go.Proofs.Ytacigddenamphaa
