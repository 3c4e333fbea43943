/- The walks over the program's and the reference's NextTaps: the row that each lays. -/
import Derived.Test.YtjabppkocjpikaaA8
import Derived.OwnWalk
import Derived.Deep.AppendLies
namespace Go.Proofs.Ytjabppkocjpikaa
open Go.RowKit

/-- A tap gone around by a third of a turn. -/
def rot (t : Tp) : Tp := ⟨t.bus, t.c, t.a, t.b, t.each⟩
/-- The cells of a tap. -/
def Tp.cs (t : Tp) : List Value := [.int .i64 t.bus, .int .i64 t.a, .int .i64 t.b, .int .i64 t.c, .float .f32 t.each]
def cellsOf (ts : List Tp) : List Value := ts.flatMap Tp.cs

theorem cellsOf_len (ts : List Tp) : (cellsOf ts).length = ts.length * 5 := by
  unfold cellsOf
  induction ts with
  | nil => rfl
  | cons t ts ih => rw [List.flatMap_cons, List.length_append, ih, List.length_cons]; simp [Tp.cs]; omega

theorem cellsOf_at {ts : List Tp} {i : Nat} {t : Tp} (h : ts[i]? = some t) {j : Nat} {u : Value} (hu : t.cs[j]? = some u) : (cellsOf ts)[i * 5 + j]? = some u := by
  have hj : j < 5 := (List.getElem?_eq_some_iff.1 hu).1
  induction ts generalizing i with
  | nil => simp at h
  | cons t' ts ih =>
    unfold cellsOf at *
    rw [List.flatMap_cons]
    cases i with
    | zero =>
      simp only [List.getElem?_cons_zero, Option.some.injEq] at h
      subst h
      rw [List.getElem?_append_left (by simp [Tp.cs]; omega)]
      simpa using hu
    | succ i =>
      simp only [List.getElem?_cons_succ] at h
      rw [List.getElem?_append_right (by simp [Tp.cs]; omega)]
      have := ih h
      rw [← this]
      congr 1
      simp [Tp.cs]; omega

theorem take_snoc {us : List Tp} {k : Nat} {u : Tp} (h : us[k]? = some u) : cellsOf (us.take (k + 1)) = cellsOf (us.take k) ++ u.cs := by
  unfold cellsOf
  rw [List.take_add_one, h]
  simp [List.flatMap_append]

theorem info33' : (Try.prog.info? 33).map (fun i => (i.zero, i.size, i.bytes)) = some (some (.agg #[.int .i64 0, .int .i64 0, .int .i64 0, .int .i64 0, .float .f32 0]), 5, 40) := by kernel_rfl

theorem ext_grown {w0 w w' : World} {v : Value} {n : Nat} {xs : List Value} (he : Ext w0 w) (hg : w.grownBy w' v.ownBlock) (hown : w.ownsRow w0.heap.size 33 5 v n xs) : Ext w0 w' := by
  refine Below.grown he hg he.size (fun k hk => ?_)
  rcases hown.2 with ⟨rfl, _⟩ | ⟨g, cap, cur, rfl, hb, _⟩
  · simp [Value.ownBlock] at hk
  · simp [Value.ownBlock] at hk; omega

theorem owns_empty (w : World) : (w.alloc (.cells #[] 33)).ownsRow w.heap.size 33 5 (.slice (some ⟨w.heap.size, 0, none⟩) 0 0) 0 [] :=
  ⟨rfl, .inr ⟨w.heap.size, 0, #[], rfl, Nat.le_refl _, heap_alloc_at _ _ _ rfl, Nat.le_refl _, Nat.zero_le _, rfl, rfl⟩⟩

set_option maxHeartbeats 1000000 in
theorem next_calls (a : Option Addr) (cap : Nat) (ts : List Tp) (w : World) (hn : ts.length ≤ 1048576) (h1 : TapsAt w a ts) :
    Calls Try.prog 8 #[.slice a ts.length cap] w fun e w' => ∃ v, e = .returned v ∧ Ext w w' ∧ w'.ownsRow w.heap.size 33 5 v ts.length (cellsOf (ts.map rot)) := by
  obtain ⟨i0, hi, hz0, hz1, hz2⟩ := info_parts info33'
  obtain ⟨B, hB⟩ : ∃ B, w.heap.size = B := ⟨_, rfl⟩
  have hO := owns_empty w
  have hE := (Ext.refl w).alloc (.cells #[] 33)
  go_enter Try.func8, Try.ntmps8
  go_wp2_with fail
  rw [hB] at hO
  go_loopw [3, 9] (fun v i wr => ∃ k : Nat, i = .int .i64 k ∧ k ≤ ts.length ∧ Ext w wr ∧ wr.ownsRow B 33 5 v k (cellsOf ((ts.map rot).take k))) (fun _ i _ => (ts.length - (intOf i)).toNat)
  case atStart => exact ⟨0, rfl, Nat.zero_le _, hE, hO⟩
  case round =>
    obtain ⟨k, rfl, hk, he, ho⟩ := hrel
    by_cases hlt : k < ts.length
    · obtain ⟨b, off, t, rfl, ht, a1, a2, a3, a4, a5⟩ := (h1.ext he).at_ hlt
      clear h1 hO hE
      go_wp2_with (at_builtin; refine wpList_append_own _ rfl _ _ 24 rfl B 33 i0 (.agg #[.int .i64 0, .int .i64 0, .int .i64 0, .int .i64 0, .float .f32 0]) 5 40 Try.underlying24 hi hz0 hz1 hz2 rfl (by decide) _ _ _ rfl ((ho.alloc _).alloc _) ⟨wr.heap.size + 1, 0, none⟩ 1 1 (rot t).cs rfl rfl ?c1 ?c2 ?c3 ?c4 ?c5 ?_)
      case c1 =>
        intro j u hj
        have hj5 : j < 5 := (List.getElem?_eq_some_iff.1 hj).1
        match j, hj5, hj with
        | 0, _, hj => simp [Tp.cs, rot] at hj; subst hj; simp [Addr.add]
        | 1, _, hj => simp [Tp.cs, rot] at hj; subst hj; simp [Addr.add]
        | 2, _, hj => simp [Tp.cs, rot] at hj; subst hj; simp [Addr.add]
        | 3, _, hj => simp [Tp.cs, rot] at hj; subst hj; simp [Addr.add]
        | 4, _, hj => simp [Tp.cs, rot] at hj; subst hj; simp [Addr.add]
      case c2 => intro u hu; simp [Tp.cs] at hu; rcases hu with rfl | rfl | rfl | rfl | rfl <;> rfl
      case c3 => unfold maxLen; omega
      case c4 => omega
      case c5 => have := he.size; simp; omega
      intro v' w1 hown' hgrow _
      have hE1 := ext_grown ((he.alloc _).alloc _) hgrow (by rw [hB]; exact (ho.alloc _).alloc _)
      have hr : (ts.map rot)[k]? = some (rot t) := by rw [List.getElem?_map, ht]; rfl
      rw [← take_snoc hr] at hown'
      clear hgrow a1 a2 a3 a4 a5 ho he hr
      go_wp2
      go_roundw
      case rel => exact ⟨k + 1, by simp, by omega, hE1, hown'⟩
      case measure => simp [intOf]; omega
    · go_wp2
      go_ret
      have hkn : k = ts.length := by omega
      subst hkn
      exact ⟨_, rfl, he, by rw [hB]; rw [List.take_of_length_le (by simp)] at ho; exact ho⟩
set_option maxHeartbeats 1000000 in
theorem nexts_calls (a : Option Addr) (cap : Nat) (ts : List Tp) (w : World) (hn : ts.length ≤ 1048576) (h1 : TapsAt w a ts) :
    Calls Try.prog 6 #[.slice a ts.length cap] w fun e w' => ∃ v, e = .returned v ∧ Ext w w' ∧ w'.ownsRow w.heap.size 33 5 v ts.length (cellsOf (ts.map rot)) := by
  obtain ⟨i0, hi, hz0, hz1, hz2⟩ := info_parts info33'
  obtain ⟨B, hB⟩ : ∃ B, w.heap.size = B := ⟨_, rfl⟩
  have hO := owns_empty w
  have hE := (Ext.refl w).alloc (.cells #[] 33)
  go_enter Try.func6, Try.ntmps6
  go_wp2_with fail
  rw [hB] at hO
  go_loopw [3, 9] (fun v i wr => ∃ k : Nat, i = .int .i64 k ∧ k ≤ ts.length ∧ Ext w wr ∧ wr.ownsRow B 33 5 v k (cellsOf ((ts.map rot).take k))) (fun _ i _ => (ts.length - (intOf i)).toNat)
  case atStart => exact ⟨0, rfl, Nat.zero_le _, hE, hO⟩
  case round =>
    obtain ⟨k, rfl, hk, he, ho⟩ := hrel
    by_cases hlt : k < ts.length
    · obtain ⟨b, off, t, rfl, ht, a1, a2, a3, a4, a5⟩ := (h1.ext he).at_ hlt
      clear h1 hO hE
      go_wp2_with (at_builtin; refine wpList_append_own _ rfl _ _ 24 rfl B 33 i0 (.agg #[.int .i64 0, .int .i64 0, .int .i64 0, .int .i64 0, .float .f32 0]) 5 40 Try.underlying24 hi hz0 hz1 hz2 rfl (by decide) _ _ _ rfl ((ho.alloc _).alloc _) ⟨wr.heap.size + 1, 0, none⟩ 1 1 (rot t).cs rfl rfl ?c1 ?c2 ?c3 ?c4 ?c5 ?_)
      case c1 =>
        intro j u hj
        have hj5 : j < 5 := (List.getElem?_eq_some_iff.1 hj).1
        match j, hj5, hj with
        | 0, _, hj => simp [Tp.cs, rot] at hj; subst hj; simp [Addr.add]
        | 1, _, hj => simp [Tp.cs, rot] at hj; subst hj; simp [Addr.add]
        | 2, _, hj => simp [Tp.cs, rot] at hj; subst hj; simp [Addr.add]
        | 3, _, hj => simp [Tp.cs, rot] at hj; subst hj; simp [Addr.add]
        | 4, _, hj => simp [Tp.cs, rot] at hj; subst hj; simp [Addr.add]
      case c2 => intro u hu; simp [Tp.cs] at hu; rcases hu with rfl | rfl | rfl | rfl | rfl <;> rfl
      case c3 => unfold maxLen; omega
      case c4 => omega
      case c5 => have := he.size; simp; omega
      intro v' w1 hown' hgrow _
      have hE1 := ext_grown ((he.alloc _).alloc _) hgrow (by rw [hB]; exact (ho.alloc _).alloc _)
      have hr : (ts.map rot)[k]? = some (rot t) := by rw [List.getElem?_map, ht]; rfl
      rw [← take_snoc hr] at hown'
      clear hgrow a1 a2 a3 a4 a5 ho he hr
      go_wp2
      go_roundw
      case rel => exact ⟨k + 1, by simp, by omega, hE1, hown'⟩
      case measure => simp [intOf]; omega
    · go_wp2
      go_ret
      have hkn : k = ts.length := by omega
      subst hkn
      exact ⟨_, rfl, he, by rw [hB]; rw [List.take_of_length_le (by simp)] at ho; exact ho⟩
end Go.Proofs.Ytjabppkocjpikaa
