/- The walks over slices of taps: their copies and their comparison. -/
import Derived.Test.YtjabppkocjpikaaA2
import Derived.Laws.MakeOwn
namespace Go.Proofs.Ytjabppkocjpikaa
open Go.RowKit

/-- From place off of block b on lie the taps ts. -/
def Row (w : World) (b off : Nat) (ts : List Tp) : Prop := ∀ i t, ts[i]? = some t →
  w.cell? ⟨b, off + i * 5, none⟩ = some (.int .i64 t.bus) ∧ w.cell? ⟨b, off + i * 5 + 1, none⟩ = some (.int .i64 t.a) ∧ w.cell? ⟨b, off + i * 5 + 2, none⟩ = some (.int .i64 t.b) ∧
  w.cell? ⟨b, off + i * 5 + 3, none⟩ = some (.int .i64 t.c) ∧ w.cell? ⟨b, off + i * 5 + 4, none⟩ = some (.float .f32 t.each)

theorem Row.ext {w w' : World} {b off : Nat} {ts : List Tp} (h : Row w b off ts) (he : Ext w w') : Row w' b off ts := fun i t hi => by
  obtain ⟨h1, h2, h3, h4, h5⟩ := h i t hi
  exact ⟨he.cell h1, he.cell h2, he.cell h3, he.cell h4, he.cell h5⟩

/-- Behind the address a lie the taps ts. -/
def TapsAt (w : World) (a : Option Addr) (ts : List Tp) : Prop := ts = [] ∨ ∃ b off, a = some ⟨b, off, none⟩ ∧ Row w b off ts
theorem TapsAt.ext {w w' : World} {a : Option Addr} {ts : List Tp} (h : TapsAt w a ts) (he : Ext w w') : TapsAt w' a ts := by
  rcases h with h | ⟨b, off, ha, h⟩
  · exact .inl h
  · exact .inr ⟨b, off, ha, h.ext he⟩
theorem TapsAt.at_ {w : World} {a : Option Addr} {ts : List Tp} (h : TapsAt w a ts) {k : Nat} (hk : k < ts.length) : ∃ b off t, a = some ⟨b, off, none⟩ ∧ ts[k]? = some t ∧
    w.cell? ⟨b, off + k * 5, none⟩ = some (.int .i64 t.bus) ∧ w.cell? ⟨b, off + k * 5 + 1, none⟩ = some (.int .i64 t.a) ∧ w.cell? ⟨b, off + k * 5 + 2, none⟩ = some (.int .i64 t.b) ∧
    w.cell? ⟨b, off + k * 5 + 3, none⟩ = some (.int .i64 t.c) ∧ w.cell? ⟨b, off + k * 5 + 4, none⟩ = some (.float .f32 t.each) := by
  rcases h with rfl | ⟨b, off, ha, h⟩
  · cases hk
  · exact ⟨b, off, ts[k], ha, List.getElem?_eq_getElem hk, h k _ (List.getElem?_eq_getElem hk)⟩

set_option maxHeartbeats 1000000 in
theorem eqtaps_calls (a a' : Option Addr) (cap cap' : Nat) (ts : List Tp) (w : World) (hn : ts.length ≤ 1048576) (h1 : TapsAt w a ts) (h2 : TapsAt w a' ts) :
    Calls Try.prog 9 #[.slice a ts.length cap, .slice a' ts.length cap'] w fun e w' => e = .returned (.bool true) ∧ Ext w w' := by
  go_enter Try.func9, Try.ntmps9
  go_wp2_with fail
  go_loopw [5] (fun i wr => ∃ k : Nat, i = .int .i64 k ∧ k ≤ ts.length ∧ Ext w wr) (fun i _ => (ts.length - (intOf i)).toNat)
  case atStart => exact ⟨0, rfl, Nat.zero_le _, Ext.refl _⟩
  case round =>
    obtain ⟨k, rfl, hk, he⟩ := hrel
    by_cases hlt : k < ts.length
    · obtain ⟨b, off, t, rfl, ht, a1, a2, a3, a4, a5⟩ := (h1.ext he).at_ hlt
      obtain ⟨b', off', t', rfl, ht', b1, b2, b3, b4, b5⟩ := (h2.ext he).at_ hlt
      obtain rfl : t = t' := by rw [ht] at ht'; injection ht'
      have A1 := xw_cell a1; have A2 := xw_cell a2; have A3 := xw_cell a3; have A4 := xw_cell a4; have A5 := xw_cell a5
      have B1 := xw_cell b1; have B2 := xw_cell b2; have B3 := xw_cell b3; have B4 := xw_cell b4; have B5 := xw_cell b5
      clear a1 a2 a3 a4 a5 b1 b2 b3 b4 b5 h1 h2
      go_wp2_with fail
      refine wp_region_xw_all (by kernel_rfl) (by kernel_rfl) ?_
      repeat (go_big_quiet_step ((go_at_call 15; (with_reducible exact call_ext (eqtap_calls _ _ _ _ _ _)))))
      refine wpQuiet_nil ?_
      intro W' hW'
      have hE := he.trans hW'
      clear A1 A2 A3 A4 A5 B1 B2 B3 B4 B5 hW' he
      go_wp2
      go_roundw
      case rel => exact ⟨k + 1, by simp, by omega, hE⟩
      case measure => simp [intOf]; omega
    · go_wp2
      go_ret
      exact ⟨rfl, he⟩

theorem info33 : ∃ i, Try.prog.info? 33 = some i ∧ i.zero = some (.agg #[.int .i64 0, .int .i64 0, .int .i64 0, .int .i64 0, .float .f32 0]) ∧ i.size = 5 ∧ i.bytes = 40 := by
  have h : (Try.prog.info? 33).map (fun i => (i.zero, i.size, i.bytes)) = some (some (.agg #[.int .i64 0, .int .i64 0, .int .i64 0, .int .i64 0, .float .f32 0]), 5, 40) := by kernel_rfl
  cases hi : Try.prog.info? 33 with
  | none => rw [hi] at h; cases h
  | some i =>
    rw [hi] at h
    simp only [Option.map_some, Option.some.injEq, Prod.mk.injEq] at h
    exact ⟨i, rfl, h.1, h.2.1, h.2.2⟩

theorem make_run (n : Nat) (hn : n ≤ 1048576) (w : World) :
    (Instr.makeSlice 24 (.int .i64 (n : Int)) (.int .i64 (n : Int))).run Try.prog w = .ok (.slice (some ⟨w.heap.size, 0, none⟩) n n) (w.alloc (.cells (madeCells #[.int .i64 0, .int .i64 0, .int .i64 0, .int .i64 0, .float .f32 0] (n * 5)) 33)) := by
  obtain ⟨i, hi, hz, hs, hb⟩ := info33
  have hr := run_make (P := Try.prog) w 24 33 i _ Try.underlying24 hi hz .i64 .i64 n n (by omega) (by omega) (by rw [hb]; omega) (by omega)
  simp only [Int.toNat_natCast, hs] at hr
  exact hr

theorem heap_set {w : World} {b i : Nat} {cs : Array Value} {t : TypeId} (v : Value) (h : w.heap[b]? = some (.cells cs t (0, 0))) :
    (w.setCell ⟨b, i, none⟩ v).heap[b]? = some (.cells (cs.setIfInBounds i v) t (0, 0)) := by
  unfold World.setCell
  simp [Array.getElem?_modify, h]

/-- Block B is a row of n taps. -/
def Own (w : World) (B n : Nat) : Prop := ∃ cs, w.heap[B]? = some (.cells cs 33 (0, 0)) ∧ cs.size = n * 5
theorem Own.ext {w w' : World} {B n : Nat} (h : Own w B n) (he : Ext w w') : Own w' B n := by
  obtain ⟨cs, h1, h2⟩ := h
  exact ⟨cs, he.heap h1, h2⟩
theorem Own.set {w : World} {B n : Nat} (h : Own w B n) (i : Nat) (v : Value) : Own (w.setCell ⟨B, i, none⟩ v) B n := by
  obtain ⟨cs, h1, h2⟩ := h
  exact ⟨_, heap_set v h1, by simp [h2]⟩
theorem Own.cell {w : World} {B n : Nat} (h : Own w B n) {i : Nat} (hi : i < n * 5) : ∃ v, w.cell? ⟨B, i, none⟩ = some v := by
  obtain ⟨cs, h1, h2⟩ := h
  exact ⟨cs[i]'(by omega), cell_of_heap h1 (Array.getElem?_eq_getElem (by omega))⟩
theorem Own.free {w : World} {B n : Nat} (h : Own w B n) (i : Nat) : w.frozen? ⟨B, i, none⟩ = false := by
  obtain ⟨cs, h1, h2⟩ := h
  exact free_of_heap i h1

/-- One tap more. -/
theorem Row.snoc {w : World} {B : Nat} {ts : List Tp} {k : Nat} {t : Tp} (h : Row w B 0 (ts.take k)) (ht : ts[k]? = some t) {n : Nat} (ho : Own w B n) (hk : k < n) :
    Row (((((w.setCell ⟨B, k * 5, none⟩ (.int .i64 t.bus)).setCell ⟨B, k * 5 + 1, none⟩ (.int .i64 t.a)).setCell ⟨B, k * 5 + 2, none⟩ (.int .i64 t.b)).setCell ⟨B, k * 5 + 3, none⟩ (.int .i64 t.c)).setCell ⟨B, k * 5 + 4, none⟩ (.float .f32 t.each)) B 0 (ts.take (k + 1)) := by
  have far : ∀ (w : World) (i j : Nat) (v : Value), i ≠ j → (w.setCell ⟨B, i, none⟩ v).cell? ⟨B, j, none⟩ = w.cell? ⟨B, j, none⟩ := fun w i j v hne => World.cell?_setCell_other w _ _ v (fun e => hne (by injection e))
  have same : ∀ {w : World} (i : Nat) (v : Value), Own w B n → i < n * 5 → (w.setCell ⟨B, i, none⟩ v).cell? ⟨B, i, none⟩ = some v := fun i v ho hi => by
    obtain ⟨u, hu⟩ := ho.cell hi
    exact World.cell?_setCell_same _ _ v hu
  intro i t' hi
  rw [List.getElem?_take] at hi
  split at hi
  · rename_i hlt
    by_cases hik : i = k
    · subst hik
      obtain rfl : t = t' := by rw [ht] at hi; injection hi
      simp only [Nat.zero_add]
      refine ⟨?_, ?_, ?_, ?_, ?_⟩
      · rw [far _ _ _ _ (by omega), far _ _ _ _ (by omega), far _ _ _ _ (by omega), far _ _ _ _ (by omega)]; exact same _ _ ho (by omega)
      · rw [far _ _ _ _ (by omega), far _ _ _ _ (by omega), far _ _ _ _ (by omega)]; exact same _ _ (ho.set _ _) (by omega)
      · rw [far _ _ _ _ (by omega), far _ _ _ _ (by omega)]; exact same _ _ ((ho.set _ _).set _ _) (by omega)
      · rw [far _ _ _ _ (by omega)]; exact same _ _ (((ho.set _ _).set _ _).set _ _) (by omega)
      · exact same _ _ ((((ho.set _ _).set _ _).set _ _).set _ _) (by omega)
    · have := h i t' (by rw [List.getElem?_take, if_pos (by omega)]; exact hi)
      simp only [Nat.zero_add] at this ⊢
      refine ⟨?_, ?_, ?_, ?_, ?_⟩ <;> rw [far _ _ _ _ (by omega), far _ _ _ _ (by omega), far _ _ _ _ (by omega), far _ _ _ _ (by omega), far _ _ _ _ (by omega)]
      · exact this.1
      · exact this.2.1
      · exact this.2.2.1
      · exact this.2.2.2.1
      · exact this.2.2.2.2
  · cases hi

set_option maxHeartbeats 1000000 in
theorem totaps_calls (a : Option Addr) (cap : Nat) (ts : List Tp) (w : World) (hn : ts.length ≤ 1048576) (h1 : TapsAt w a ts) :
    Calls Try.prog 7 #[.slice a ts.length cap] w fun e w' => e = .returned (.slice (some ⟨w.heap.size, 0, none⟩) ts.length ts.length) ∧ Ext w w' ∧ TapsAt w' (some ⟨w.heap.size, 0, none⟩) ts := by
  have hm := make_run ts.length hn
  go_enter Try.func7, Try.ntmps7
  go_wp2_with fail
  clear hm
  have hO : Own (w.alloc (.cells (madeCells #[.int .i64 0, .int .i64 0, .int .i64 0, .int .i64 0, .float .f32 0] (ts.length * 5)) 33)) w.heap.size ts.length := ⟨_, heap_alloc_at _ _ _ rfl, size_madeCells _ _⟩
  have hE := (Ext.refl w).alloc (.cells (madeCells #[.int .i64 0, .int .i64 0, .int .i64 0, .int .i64 0, .float .f32 0] (ts.length * 5)) 33)
  generalize w.alloc (.cells (madeCells #[.int .i64 0, .int .i64 0, .int .i64 0, .int .i64 0, .float .f32 0] (ts.length * 5)) 33) = W at *
  obtain ⟨B, hB⟩ : ∃ B, w.heap.size = B := ⟨_, rfl⟩
  rw [hB] at hO ⊢
  go_loopw [4] (fun i wr => ∃ k : Nat, i = .int .i64 k ∧ k ≤ ts.length ∧ Ext w wr ∧ Own wr B ts.length ∧ Row wr B 0 (ts.take k)) (fun i _ => (ts.length - (intOf i)).toNat)
  case atStart => exact ⟨0, rfl, Nat.zero_le _, hE, hO, fun i t hi => by simp at hi⟩
  case round =>
    obtain ⟨k, rfl, hk, he, ho, hr⟩ := hrel
    by_cases hlt : k < ts.length
    · obtain ⟨b, off, t, rfl, ht, a1, a2, a3, a4, a5⟩ := (h1.ext he).at_ hlt
      clear h1
      go_wp2_with fail
      have F := totap_calls t wr
      unfold Tp.v at F
      refine F.mono ?_
      rintro e w1 ⟨rfl, h1⟩
      have he1 := he.trans h1
      have ho1 := ho.ext h1
      have hr1 := hr.ext h1
      clear F a1 a2 a3 a4 a5 he ho hr h1
      obtain ⟨x1, c1⟩ := ho1.cell (i := k * 5) (by omega)
      obtain ⟨x2, c2⟩ := ho1.cell (i := k * 5 + 1) (by omega)
      obtain ⟨x3, c3⟩ := ho1.cell (i := k * 5 + 2) (by omega)
      obtain ⟨x4, c4⟩ := ho1.cell (i := k * 5 + 3) (by omega)
      obtain ⟨x5, c5⟩ := ho1.cell (i := k * 5 + 4) (by omega)
      have f1 := ho1.free (k * 5)
      have f2 := ho1.free (k * 5 + 1)
      have f3 := ho1.free (k * 5 + 2)
      have f4 := ho1.free (k * 5 + 3)
      have f5 := ho1.free (k * 5 + 4)
      have hr2 := hr1.snoc ht ho1 hlt
      have ho2 := ((((ho1.set (k * 5) (.int .i64 t.bus)).set (k * 5 + 1) (.int .i64 t.a)).set (k * 5 + 2) (.int .i64 t.b)).set (k * 5 + 3) (.int .i64 t.c)).set (k * 5 + 4) (.float .f32 t.each)
      have hs : ∀ (i : Nat), w.heap.size ≤ (Addr.mk B i none).block := fun i => by rw [hB]; exact Nat.le_refl _
      have he2 := ((((he1.setCell (hs (k * 5)) (.int .i64 t.bus)).setCell (hs (k * 5 + 1)) (.int .i64 t.a)).setCell (hs (k * 5 + 2)) (.int .i64 t.b)).setCell (hs (k * 5 + 3)) (.int .i64 t.c)).setCell (hs (k * 5 + 4)) (.float .f32 t.each)
      clear hs ho1 hr1 he1
      go_wp2
      go_roundw
      case rel => exact ⟨k + 1, by simp, by omega, he2, ho2, hr2⟩
      case measure => simp [intOf]; omega
    · go_wp2
      go_ret
      have hkn : k = ts.length := by omega
      subst hkn
      exact ⟨by rw [hB]; rfl, he, .inr ⟨B, 0, by rw [hB], by rw [List.take_length] at hr; exact hr⟩⟩
end Go.Proofs.Ytjabppkocjpikaa
