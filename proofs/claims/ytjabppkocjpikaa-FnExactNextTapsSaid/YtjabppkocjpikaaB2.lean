/- The walks over marks: numbers written into a row of taps, and looked for again. -/
import Derived.Test.YtjabppkocjpikaaB1
namespace Go.Proofs.Ytjabppkocjpikaa
open Go.RowKit Flt

theorem fint_eq (x : Nat) (h : x ≤ 8388608) : FloatKind.f32.format.order (floatOfInt .f32 (x : Int)) (floatOfInt .f32 (x : Int)) = some .eq := by
  have hP : (8388608 : Rat) < P 127 := by
    have : P 23 < P 127 := P_lt (by decide)
    have e : P 23 = 8388608 := by decide +kernel
    exact e ▸ this
  have hx : (x : Rat) ≤ 8388608 := by
    have := Rat.natCast_le_natCast.2 h
    exact this
  have h0 : (0 : Rat) ≤ (x : Rat) := Rat.natCast_nonneg
  obtain ⟨z, hz, _⟩ := write_val Ieee.single roomy32 false x 0 (x : Rat) 8388608 (by rw [P_zero]; unfold sg; simp) hx (by grind) hP
  have e : floatOfInt .f32 (x : Int) = Ieee.single.write (.number false x 0) := by
    unfold floatOfInt FloatKind.nearest
    have : decide ((x : Int) < 0) = false := decide_eq_false (by omega)
    rw [this, Int.natAbs_natCast]; rfl
  rw [e]
  have := hz.order hz
  rw [if_neg (by grind), if_pos rfl] at this
  exact this

/-- The marked taps. -/
def mk (i : Nat) : Tp := ⟨1 + 5 * (i : Int), 1 + 5 * (i : Int) + 1, 1 + 5 * (i : Int) + 1 + 1, 1 + 5 * (i : Int) + 1 + 1 + 1, floatOfInt .f32 (1 + 5 * (i : Int) + 1 + 1 + 1 + 1)⟩
def marks (n : Nat) : List Tp := (List.range n).map mk
theorem marks_at {n i : Nat} (h : i < n) : (marks n)[i]? = some (mk i) := by
  unfold marks
  rw [List.getElem?_map, List.getElem?_range h]; rfl
theorem marks_len (n : Nat) : (marks n).length = n := by unfold marks; simp

/-- From w to w' nothing but cells of block g have turned. -/
structure Only (g : Nat) (w w' : World) : Prop where
  os : w'.os = w.os
  tape : w'.tape = w.tape
  output : w'.output = w.output
  size : w'.heap.size = w.heap.size
  block : ∀ k, k ≠ g → w'.heap[k]? = w.heap[k]?
theorem Only.refl (g : Nat) (w : World) : Only g w w := ⟨rfl, rfl, rfl, rfl, fun _ _ => rfl⟩
theorem Only.set {g : Nat} {w w' : World} (h : Only g w w') (i : Nat) (v : Value) : Only g w (w'.setCell ⟨g, i, none⟩ v) :=
  ⟨h.os, h.tape, h.output, by rw [← h.size]; simp [World.setCell], fun k hk => (Below.heap_setCell w' ⟨g, i, none⟩ v k hk).trans (h.block k hk)⟩
theorem Only.ext {g : Nat} {w0 w w' : World} (h : Only g w w') (he : Ext w0 w) (hg : w0.heap.size ≤ g) : Ext w0 w' :=
  Below.trans he ⟨h.os, h.tape, h.output, by rw [h.size]; exact Nat.le_refl _, fun k hk => h.block k (by omega)⟩
theorem Only.cell {g : Nat} {w w' : World} (h : Only g w w') {b o : Nat} (hb : b ≠ g) : w'.cell? ⟨b, o, none⟩ = w.cell? ⟨b, o, none⟩ := World.cell?_of_block (h.block b hb)
theorem Only.row {g : Nat} {w w' : World} (h : Only g w w') {b off : Nat} {ts : List Tp} (hr : Row w b off ts) (hb : b ≠ g) : Row w' b off ts := fun i t hi => by
  obtain ⟨h1, h2, h3, h4, h5⟩ := hr i t hi
  exact ⟨(h.cell hb).trans h1, (h.cell hb).trans h2, (h.cell hb).trans h3, (h.cell hb).trans h4, (h.cell hb).trans h5⟩
theorem Only.own {g : Nat} {w w' : World} (h : Only g w w') {b n : Nat} (ho : Own w b n) (hb : b ≠ g) : Own w' b n := by
  obtain ⟨cs, h1, h2⟩ := ho
  exact ⟨cs, (h.block b hb).trans h1, h2⟩

set_option maxHeartbeats 2000000 in
theorem mark_calls (a : Option Addr) (n cap g c : Nat) (w : World) (hn : n ≤ 1048576) (ha : n = 0 ∨ (a = some ⟨g, 0, none⟩ ∧ Own w g c ∧ n ≤ c)) :
    Calls Try.prog 10 #[.slice a n cap, .int .i64 1] w fun e w' => e = .returned (.int .i64 (1 + 5 * (n : Int))) ∧ Only g w w' ∧ (n = 0 ∨ (Own w' g c ∧ Row w' g 0 (marks n))) := by
  go_enter Try.func10, Try.ntmps10
  go_wp2_with fail
  go_loopw [1, 5] (fun kk i wr => ∃ j : Nat, i = .int .i64 j ∧ kk = .int .i64 (1 + 5 * (j : Int)) ∧ j ≤ n ∧ Only g w wr ∧ (n = 0 ∨ (Own wr g c ∧ Row wr g 0 ((marks n).take j)))) (fun _ i _ => (n - (intOf i)).toNat)
  case atStart => exact ⟨0, rfl, rfl, Nat.zero_le _, Only.refl _ _, ha.imp id fun h => ⟨h.2.1, fun i t hi => by simp at hi⟩⟩
  case round =>
    obtain ⟨j, rfl, rfl, hj, hO, hown⟩ := hrel
    by_cases hlt : j < n
    · rcases ha with h | ⟨rfl, _, hnc⟩
      · omega
      rcases hown with h | ⟨ho, hr⟩
      · omega
      obtain ⟨x1, c1⟩ := ho.cell (i := j * 5) (by omega)
      obtain ⟨x2, c2⟩ := ho.cell (i := j * 5 + 1) (by omega)
      obtain ⟨x3, c3⟩ := ho.cell (i := j * 5 + 2) (by omega)
      obtain ⟨x4, c4⟩ := ho.cell (i := j * 5 + 3) (by omega)
      obtain ⟨x5, c5⟩ := ho.cell (i := j * 5 + 4) (by omega)
      have f1 := ho.free (j * 5)
      have f2 := ho.free (j * 5 + 1)
      have f3 := ho.free (j * 5 + 2)
      have f4 := ho.free (j * 5 + 3)
      have f5 := ho.free (j * 5 + 4)
      have hr2 := hr.snoc (marks_at hlt) ho (by omega)
      have ho2 := ((((ho.set (j * 5) (.int .i64 (mk j).bus)).set (j * 5 + 1) (.int .i64 (mk j).a)).set (j * 5 + 2) (.int .i64 (mk j).b)).set (j * 5 + 3) (.int .i64 (mk j).c)).set (j * 5 + 4) (.float .f32 (mk j).each)
      have hO2 := ((((hO.set (j * 5) (.int .i64 (mk j).bus)).set (j * 5 + 1) (.int .i64 (mk j).a)).set (j * 5 + 2) (.int .i64 (mk j).b)).set (j * 5 + 3) (.int .i64 (mk j).c)).set (j * 5 + 4) (.float .f32 (mk j).each)
      clear ho hr hO
      go_wp2
      go_roundw
      case rel => exact ⟨j + 1, by simp, by simp; omega, by omega, hO2, .inr ⟨ho2, hr2⟩⟩
      case measure => simp [intOf]; omega
    · go_wp2
      go_ret
      have hjn : j = n := by omega
      subst hjn
      exact ⟨rfl, hO, hown.imp id fun h => ⟨h.1, by have := h.2; rw [List.take_of_length_le (by rw [marks_len]; exact Nat.le_refl _)] at this; exact this⟩⟩

set_option maxHeartbeats 2000000 in
theorem held_calls (a : Option Addr) (n cap g : Nat) (w : World) (hn : n ≤ 1048576) (ha : n = 0 ∨ (a = some ⟨g, 0, none⟩ ∧ Row w g 0 (marks n))) :
    Calls Try.prog 11 #[.slice a n cap, .int .i64 1] w fun e w' => e = .returned (.int .i64 (1 + 5 * (n : Int))) ∧ w' = w := by
  go_enter Try.func11, Try.ntmps11
  go_wp2_with fail
  go_loop [1, 5] (fun kk i => ∃ j : Nat, i = .int .i64 j ∧ kk = .int .i64 (1 + 5 * (j : Int)) ∧ j ≤ n) (fun _ i => (n - (intOf i)).toNat)
  case atStart => exact ⟨0, rfl, rfl, Nat.zero_le _⟩
  case round =>
    obtain ⟨j, rfl, rfl, hj⟩ := hrel
    by_cases hlt : j < n
    · rcases ha with h | ⟨rfl, hr⟩
      · omega
      obtain ⟨a1, a2, a3, a4, a5⟩ := hr j _ (marks_at hlt)
      rw [Nat.zero_add] at a1 a2 a3 a4 a5
      unfold mk at a1 a2 a3 a4 a5
      simp only at a1 a2 a3 a4 a5
      have hf := fint_eq (1 + 5 * j + 1 + 1 + 1 + 1) (by omega)
      have e : ((1 + 5 * j + 1 + 1 + 1 + 1 : Nat) : Int) = 1 + 5 * (j : Int) + 1 + 1 + 1 + 1 := by omega
      rw [e] at hf
      have hq : (FloatKind.f32.format.order (floatOfInt .f32 (1 + 5 * (j : Int) + 1 + 1 + 1 + 1)) (floatOfInt .f32 (1 + 5 * (j : Int) + 1 + 1 + 1 + 1)) != some .eq) = false := by rw [hf]; rfl
      clear hf e hr
      go_wp2
      go_round
      case rel => exact ⟨j + 1, by simp, by simp; omega, by omega⟩
      case measure => simp [intOf]; omega
    · go_wp2
      go_ret
      have hjn : j = n := by omega
      subst hjn
      exact ⟨rfl, rfl⟩
end Go.Proofs.Ytjabppkocjpikaa
