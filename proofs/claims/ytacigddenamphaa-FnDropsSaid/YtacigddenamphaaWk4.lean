/- The walks over the other functions on phases and parts. -/
import Derived.Test.YtacigddenamphaaWk3
namespace Go.Proofs.Ytacigddenamphaa
open Go.RowKit

set_option maxHeartbeats 1000000 in
theorem phases_calls (z1 z2 p1 p2 m1 m2 s1 s2 A1 A2 b1 b2 t1 t2 c1 c2 B1 B2 d1 d2 u1 u2 e1 e2 C1 C2 : Nat) (w : World)
    (h1 : floatBits .add .f32 z1 p1 = some s1) (h2 : floatBits .add .f32 z2 p2 = some s2)
    (h3 : floatBits .add .f32 s1 m1 = some A1) (h4 : floatBits .add .f32 s2 m2 = some A2)
    (f1 : ∀ w, Calls Try.prog 26 #[.complex .f32 3204448256 3210589143, .complex .f32 p1 p2] w fun e w' => e = .returned (.complex .f32 b1 b2) ∧ w' = w)
    (h5 : floatBits .add .f32 z1 b1 = some t1) (h6 : floatBits .add .f32 z2 b2 = some t2)
    (f2 : ∀ w, Calls Try.prog 26 #[.complex .f32 3204448256 1063105495, .complex .f32 m1 m2] w fun e w' => e = .returned (.complex .f32 c1 c2) ∧ w' = w)
    (h7 : floatBits .add .f32 t1 c1 = some B1) (h8 : floatBits .add .f32 t2 c2 = some B2)
    (f3 : ∀ w, Calls Try.prog 26 #[.complex .f32 3204448256 1063105495, .complex .f32 p1 p2] w fun e w' => e = .returned (.complex .f32 d1 d2) ∧ w' = w)
    (h9 : floatBits .add .f32 z1 d1 = some u1) (h10 : floatBits .add .f32 z2 d2 = some u2)
    (f4 : ∀ w, Calls Try.prog 26 #[.complex .f32 3204448256 3210589143, .complex .f32 m1 m2] w fun e w' => e = .returned (.complex .f32 e1 e2) ∧ w' = w)
    (h11 : floatBits .add .f32 u1 e1 = some C1) (h12 : floatBits .add .f32 u2 e2 = some C2) :
    Calls Try.prog 9 #[.agg #[.complex .f32 z1 z2, .complex .f32 p1 p2, .complex .f32 m1 m2]] w fun e w' =>
      e = .returned (.agg #[.complex .f32 A1 A2, .complex .f32 B1 B2, .complex .f32 C1 C2]) ∧ Ext w w' := by
  have h1 := fcop (.inl rfl) h1 h2; have h3 := fcop (.inl rfl) h3 h4; have h5 := fcop (.inl rfl) h5 h6; have h7 := fcop (.inl rfl) h7 h8
  have h9 := fcop (.inl rfl) h9 h10; have h11 := fcop (.inl rfl) h11 h12
  have F1 := Lib.hid f1; have F2 := Lib.hid f2; have F3 := Lib.hid f3; have F4 := Lib.hid f4
  clear f1 f2 f3 f4
  go_enter Try.func9, Try.ntmps9
  go_wp2_with (go_at_call 24; refine (turns_calls _).mono ?_; rintro e w' ⟨rfl, rfl⟩)
  have hA : ∀ e, (xw ((w.alloc (.cells #[.complex .f32 z1 z2, .complex .f32 p1 p2, .complex .f32 m1 m2] 30)).alloc (.cells #[.complex .f32 0 0, .complex .f32 0 0, .complex .f32 0 0] 26)) e).cell? ⟨w.heap.size, 0, none⟩ = some (.complex .f32 z1 z2) := xw_cell (by go_simp)
  have hB : ∀ e, (xw ((w.alloc (.cells #[.complex .f32 z1 z2, .complex .f32 p1 p2, .complex .f32 m1 m2] 30)).alloc (.cells #[.complex .f32 0 0, .complex .f32 0 0, .complex .f32 0 0] 26)) e).cell? ⟨w.heap.size, 1, none⟩ = some (.complex .f32 p1 p2) := xw_cell (by go_simp)
  have hC : ∀ e, (xw ((w.alloc (.cells #[.complex .f32 z1 z2, .complex .f32 p1 p2, .complex .f32 m1 m2] 30)).alloc (.cells #[.complex .f32 0 0, .complex .f32 0 0, .complex .f32 0 0] 26)) e).cell? ⟨w.heap.size, 2, none⟩ = some (.complex .f32 m1 m2) := xw_cell (by go_simp)
  have hR : ((w.alloc (.cells #[.complex .f32 z1 z2, .complex .f32 p1 p2, .complex .f32 m1 m2] 30)).alloc (.cells #[.complex .f32 0 0, .complex .f32 0 0, .complex .f32 0 0] 26)).heap[w.heap.size + 1]? = some (.cells #[.complex .f32 0 0, .complex .f32 0 0, .complex .f32 0 0] 26 (0, 0)) := heap_alloc_at _ _ _ (by simp)
  have hE : Ext w ((w.alloc (.cells #[.complex .f32 z1 z2, .complex .f32 p1 p2, .complex .f32 m1 m2] 30)).alloc (.cells #[.complex .f32 0 0, .complex .f32 0 0, .complex .f32 0 0] 26)) := ((Ext.refl w).alloc _).alloc _
  generalize ((w.alloc (.cells #[.complex .f32 z1 z2, .complex .f32 p1 p2, .complex .f32 m1 m2] 30)).alloc (.cells #[.complex .f32 0 0, .complex .f32 0 0, .complex .f32 0 0] 26)) = W at *
  refine wp_region_xw_all (by kernel_rfl) (by kernel_rfl) ?_
  repeat (go_big_quiet_step (fail))
  refine wpQuiet_nil ?_
  intro W' hW'
  have hR' := hW'.heap hR
  have hE' := hE.trans hW'
  have c0 := cell_of_heap (i := 0) hR' rfl
  have c1 := cell_of_heap (i := 1) hR' rfl
  have c2 := cell_of_heap (i := 2) hR' rfl
  have r0 := free_of_heap 0 hR'
  have r1 := free_of_heap 1 hR'
  have r2 := free_of_heap 2 hR'
  clear hA hB hC hR hE hW' hR'
  go_wp2_with (go_at_call 26; first
    | ((with_reducible refine (F1.out _).mono ?_); rintro e w' ⟨rfl, rfl⟩) | ((with_reducible refine (F2.out _).mono ?_); rintro e w' ⟨rfl, rfl⟩)
    | ((with_reducible refine (F3.out _).mono ?_); rintro e w' ⟨rfl, rfl⟩) | ((with_reducible refine (F4.out _).mono ?_); rintro e w' ⟨rfl, rfl⟩))
  exact bodyPost_ret (v := .agg #[.complex .f32 A1 A2, .complex .f32 B1 B2, .complex .f32 C1 C2]) (by simp [results, Try.results9, go_sem, c0, c1, c2]) rfl
    ⟨rfl, ((Ext.setCell hE' (by simp) _).setCell (by simp) _).setCell (by simp) _⟩

set_option maxHeartbeats 1000000 in
theorem even_calls (x1 x2 b1 b2 c1 c2 : Nat) (w : World)
    (f1 : ∀ w, Calls Try.prog 26 #[.complex .f32 x1 x2, .complex .f32 3204448256 3210589143] w fun e w' => e = .returned (.complex .f32 b1 b2) ∧ w' = w)
    (f2 : ∀ w, Calls Try.prog 26 #[.complex .f32 x1 x2, .complex .f32 3204448256 1063105495] w fun e w' => e = .returned (.complex .f32 c1 c2) ∧ w' = w) :
    Calls Try.prog 10 #[.complex .f32 x1 x2] w fun e w' =>
      e = .returned (.agg #[.complex .f32 x1 x2, .complex .f32 b1 b2, .complex .f32 c1 c2]) ∧ Ext w w' := by
  have F1 := Lib.hid f1; have F2 := Lib.hid f2
  clear f1 f2
  have s1 := Lib.hid phasor_forth
  have s2 := Lib.hid phasor_back
  go_enter Try.func10, Try.ntmps10
  go_wp2_with (first | (go_at_call 27; first | ((with_reducible refine (s1.out _).mono ?_); rintro e w' ⟨rfl, rfl⟩) | ((with_reducible refine (s2.out _).mono ?_); rintro e w' ⟨rfl, rfl⟩)) | (go_at_call 26; first | ((with_reducible refine (F1.out _).mono ?_); rintro e w' ⟨rfl, rfl⟩) | ((with_reducible refine (F2.out _).mono ?_); rintro e w' ⟨rfl, rfl⟩)))
  exact bodyPost_ret (v := .agg #[.complex .f32 x1 x2, .complex .f32 b1 b2, .complex .f32 c1 c2]) (by simp [results, Try.results10, go_sem]) rfl
    ⟨rfl, (Ext.refl _).alloc _⟩

set_option maxHeartbeats 1000000 in
theorem next_calls (a1 a2 b1 b2 c1 c2 : Nat) (w : World) :
    Calls Try.prog 11 #[.agg #[.complex .f32 a1 a2, .complex .f32 b1 b2, .complex .f32 c1 c2]] w fun e w' =>
      e = .returned (.agg #[.complex .f32 c1 c2, .complex .f32 a1 a2, .complex .f32 b1 b2]) ∧ Ext w w' := by
  go_enter Try.func11, Try.ntmps11
  go_wp2
  exact bodyPost_ret (v := .agg #[.complex .f32 c1 c2, .complex .f32 a1 a2, .complex .f32 b1 b2]) (by simp [results, Try.results11, go_sem]) rfl
    ⟨rfl, ((Ext.refl _).alloc _).alloc _⟩

set_option maxHeartbeats 1000000 in
theorem ground_calls (a1 a2 b1 b2 c1 c2 s1 s2 t1 t2 : Nat) (w : World)
    (h1 : floatBits .add .f32 a1 b1 = some s1) (h2 : floatBits .add .f32 a2 b2 = some s2)
    (h3 : floatBits .add .f32 s1 c1 = some t1) (h4 : floatBits .add .f32 s2 c2 = some t2) :
    Calls Try.prog 15 #[.agg #[.complex .f32 a1 a2, .complex .f32 b1 b2, .complex .f32 c1 c2]] w fun e w' =>
      e = .returned (.complex .f32 t1 t2) ∧ Ext w w' := by
  have h1 := fcop (.inl rfl) h1 h2; have h3 := fcop (.inl rfl) h3 h4
  go_enter Try.func15, Try.ntmps15
  go_wp2
  go_ret
  exact ⟨rfl, (Ext.refl _).alloc _⟩
end Go.Proofs.Ytacigddenamphaa
