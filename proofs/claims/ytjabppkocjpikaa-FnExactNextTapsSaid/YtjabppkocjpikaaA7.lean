/- The law on the comparison of taps: whatever the taps, at most 1048576 of both, it returns true. And slices of taps that come in. -/
import Derived.Test.YtjabppkocjpikaaA6
import Derived.Deep.Slices
namespace Go.Proofs.Ytjabppkocjpikaa
open Go.RowKit Go.Deep Go.ChangeShapes Go.WideShapes

set_option maxHeartbeats 400000 in
theorem sz_less (a : Option Addr) (len cap left : Nat) (w : World) (hl : left ≤ 1048576) (hm : len ≤ maxLen) (h : left < len) :
    Calls Try.prog 5 #[.slice a len cap, .int .i64 left] w fun e w' => e = .returned (.int .i64 (-1)) ∧ w' = w := by
  unfold maxLen at hm
  go_enter Try.func5, Try.ntmps5
  go_wp2
  go_ret
  exact ⟨rfl, rfl⟩

set_option maxHeartbeats 400000 in
theorem sz_more (a : Option Addr) (len cap left : Nat) (w : World) (hl : left ≤ 1048576) (h : len ≤ left) :
    Calls Try.prog 5 #[.slice a len cap, .int .i64 left] w fun e w' => e = .returned (.int .i64 ((left - len : Nat) : Int)) ∧ w' = w := by
  go_enter Try.func5, Try.ntmps5
  go_wp2
  go_ret
  exact ⟨by simp; omega, rfl⟩

/-- What the law is told of a slice of taps that came in. -/
def IsTaps (w : World) (a : Option Addr) (len : Nat) (ts : List Tp) : Prop := ts.length = len ∧ len ≤ maxLen ∧ TapsAt w a ts ∧ ∀ t ∈ ts, t.each < 4294967296

theorem trod_float {H : Type} {enc : TypeId × Value → H} {P : Program} {w : World} {base : Nat} {spare : Nat → Bool} {held : Bool} {fuel : Nat} {t : TypeId} {cs : List Value} {x : DataW H × List MemPlace} {k : FloatKind}
    (ht : P.underlying t = some (.float k)) (h : DataW.trod enc P w base spare held fuel t cs = some x) : ∃ b, cs = [.float k b] ∧ (Lit.float k b).wf = true := by
  cases fuel with
  | zero => simp [DataW.trod] at h
  | succ n =>
    unfold DataW.trod at h
    rw [ht] at h
    split at h <;> simp_all
theorem trod_f32 {H : Type} {enc : TypeId × Value → H} {P : Program} {w : World} {base : Nat} {spare : Nat → Bool} {held : Bool} {fuel : Nat} {t : TypeId} {cs : List Value} {x : DataW H × List MemPlace}
    (ht : P.underlying t = some (.float .f32)) (h : DataW.trod enc P w base spare held fuel t cs = some x) : ∃ b, cs = [.float .f32 b] ∧ b < 4294967296 := by
  obtain ⟨b, h1, h2⟩ := trod_float ht h
  exact ⟨b, h1, of_decide_eq_true h2⟩

theorem open_tap {H : Type} {enc : TypeId × Value → H} {w : World} {base : Nat} {spare : Nat → Bool} {held : Bool} {fuel : Nat} {cs : List Value} {x : DataW H × List MemPlace}
    (h : DataW.trod enc Try.prog w base spare held fuel 35 cs = some x) :
    ∃ t : Tp, t.each < 4294967296 ∧ cs = [.int .i64 t.bus, .int .i64 t.a, .int .i64 t.b, .int .i64 t.c, .float .f32 t.each] := by
  obtain ⟨ys, n, _, _, hlen, hyl, hf⟩ := DataW.trod_struct Try.underlying35 h
  have e : Try.prog.cellsOf 35 = 5 := by kernel_rfl
  rw [e] at hlen
  match cs, hlen with
  | [c0, c1, c2, c3, c4], _ =>
    have hy : ys.length = 5 := hyl
    match ys, hy with
    | [y0, y1, y2, y3, y4], _ =>
      have f0 := hf 0 _ rfl
      have f1 := hf 1 _ rfl
      have f2 := hf 2 _ rfl
      have f3 := hf 3 _ rfl
      have f4 := hf 4 _ rfl
      obtain ⟨n0, h0, _⟩ := DataW.trod_int Try.underlying2 f0
      obtain ⟨n1, h1, _⟩ := DataW.trod_int Try.underlying2 f1
      obtain ⟨n2, h2, _⟩ := DataW.trod_int Try.underlying2 f2
      obtain ⟨n3, h3, _⟩ := DataW.trod_int Try.underlying2 f3
      obtain ⟨b, h4, hb⟩ := trod_f32 Try.underlying31 f4
      injection h0 with h0; injection h1 with h1; injection h2 with h2; injection h3 with h3; injection h4 with h4
      subst h0; subst h1; subst h2; subst h3; subst h4
      exact ⟨⟨n0, n1, n2, n3, b⟩, hb, rfl⟩

instance : Inhabited Tp := ⟨⟨0, 0, 0, 0, 0⟩⟩

theorem open_taps {H : Type} {enc : TypeId × Value → H} {w : World} {spare : Nat → Bool} {held : Bool} {fuel : Nat} {a : Option Addr} {len cap : Nat} {x : DataW H × List MemPlace}
    (hsp : ∀ b, spare b = true) (h : DataW.trod enc Try.prog w 0 spare held fuel 22 [.slice a len cap] = some x) : ∃ ts, IsTaps w a len ts := by
  have e : Try.prog.cellsOf 35 = 5 := by kernel_rfl
  rcases open_slice Try.underlying22 h with ⟨hcs, _⟩ | ⟨ad, l, c, m, n, D, Pl, hcs, _, hl, hm, hmm, _, hi⟩
  · simp at hcs
    obtain ⟨rfl, rfl, rfl⟩ := hcs
    exact ⟨[], rfl, by unfold maxLen; omega, .inl rfl, fun t ht => by cases ht⟩
  · simp at hcs
    obtain ⟨rfl, rfl, rfl⟩ := hcs
    rw [hsp, if_pos rfl] at hmm
    subst hmm
    have hex : ∀ i, i < len → ∃ t : Tp, t.each < 4294967296 ∧ w.cell? ((ad.add (i * 5)).add 0) = some (.int .i64 t.bus) ∧ w.cell? ((ad.add (i * 5)).add 1) = some (.int .i64 t.a) ∧
        w.cell? ((ad.add (i * 5)).add 2) = some (.int .i64 t.b) ∧ w.cell? ((ad.add (i * 5)).add 3) = some (.int .i64 t.c) ∧ w.cell? ((ad.add (i * 5)).add 4) = some (.float .f32 t.each) := fun i hlt => by
      obtain ⟨cs', hc, ht⟩ := hi i (by omega)
      obtain ⟨t, hb, rfl⟩ := open_tap ht
      rw [e] at hc
      obtain ⟨_, _, hat⟩ := World.cells?_some hc
      exact ⟨t, hb, hat 0 (by omega), hat 1 (by omega), hat 2 (by omega), hat 3 (by omega), hat 4 (by omega)⟩
    obtain ⟨f, hf⟩ := choose_lt hex
    refine ⟨(List.range len).map f, by simp, by omega, ?_, ?_⟩
    · by_cases h0 : len = 0
      · subst h0; exact .inl rfl
      · have hspot : ad = ⟨ad.block, ad.off, none⟩ := by
          have := (hf 0 (by omega)).2.1
          unfold World.cell? at this
          cases ad with
          | mk b o s =>
            cases s with
            | none => rfl
            | some k => exfalso; simp [Addr.add] at this; split at this <;> cases this
        refine .inr ⟨ad.block, ad.off, by rw [← hspot], fun i t hi' => ?_⟩
        rw [List.getElem?_map] at hi'
        by_cases hlt : i < len
        · rw [List.getElem?_range hlt] at hi'
          simp only [Option.map_some, Option.some.injEq] at hi'
          subst hi'
          have ea : ∀ j, (ad.add (i * 5)).add j = ⟨ad.block, ad.off + i * 5 + j, none⟩ := fun j => by
            rw [hspot]
            unfold Addr.add
            by_cases h1 : i * 5 = 0 <;> by_cases h2 : j = 0 <;> simp [h1, h2]
          have := (hf i hlt).2
          simp only [ea] at this
          exact this
        · rw [List.getElem?_eq_none (by simp; omega)] at hi'
          cases hi'
    · intro t ht
      rw [List.mem_map] at ht
      obtain ⟨i, hi', rfl⟩ := ht
      exact (hf i (List.mem_range.1 hi')).1
end Go.Proofs.Ytjabppkocjpikaa
