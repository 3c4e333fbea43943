/- Loads and powers: exact where the load is a power or a current, finite where it is an impedance. -/
import Derived.Test.YtacigddenamphaaEx2
namespace Go.Proofs.Ytacigddenamphaa
open Go.RowKit Flt

theorem q8_zero : Q8 0 0 := ⟨false, 0, Ieee.single.leastPlace, by decide +kernel, by decide +kernel⟩
theorem q8_eight : Q8 1090519040 2048 := ⟨false, 8388608, -20, by decide +kernel, by decide +kernel⟩
theorem q8_neight : Q8 3238002688 (-2048) := ⟨true, 8388608, -20, by decide +kernel, by decide +kernel⟩

theorem q8_neg {x : Nat} {n : Int} (h : Q8 x n) : Q8 (Op.negFloat .f32 x) (-n) := by
  have := Val.neg (k := .f32) h
  have e : -((n : Rat) / 256) = ((-n : Int) : Rat) / 256 := by rw [Rat.intCast_neg]; grind
  rw [e] at this
  exact this

theorem zt {x : Nat} {n : Int} (h : Q8 x n) : (FloatKind.f32.format.order x 0 == some .eq) = decide (n = 0) := by
  have ho : FloatKind.f32.format.order x 0 = _ := h.order q8_zero
  rw [ho]
  by_cases hn : n = 0
  · subst hn
    rw [if_neg (by grind), if_pos (by grind), decide_eq_true rfl]; rfl
  · have hne : ¬ ((n : Rat) / 256 = ((0 : Int) : Rat) / 256) := by
      intro e
      have e0 : ((0 : Int) : Rat) = 0 := rfl
      rw [e0] at e
      have : (n : Rat) = 0 := by grind
      exact hn (Rat.intCast_eq_zero_iff.1 this)
    rw [if_neg hne, decide_eq_false hn]
    split <;> rfl

/-- The exact product, in whatever units come out whole. -/
theorem mulg {a b c d : Nat} {p1 p2 q1 q2 r i : Int} (ha : Q8 a p1) (hb : Q8 b p2) (hc : Q8 c q1) (hd : Q8 d q2)
    (k1 : IB 1000000000 (p1 * q1)) (k2 : IB 1000000000 (p2 * q2)) (k3 : IB 1000000000 (p1 * q2)) (k4 : IB 1000000000 (p2 * q1))
    (hr : p1 * q1 - p2 * q2 = 256 * r) (hi : p1 * q2 + p2 * q1 = 256 * i) :
    ∃ x y, Q8 x r ∧ Q8 y i ∧
      ∀ w, Calls Try.prog 26 #[.complex .f32 a b, .complex .f32 c d] w fun e w' => e = .returned (.complex .f32 x y) ∧ w' = w := by
  unfold IB at *
  obtain ⟨a', wa, va⟩ := ha.wide
  obtain ⟨b', wb, vb⟩ := hb.wide
  obtain ⟨c', wc, vc⟩ := hc.wide
  obtain ⟨d', wd, vd⟩ := hd.wide
  obtain ⟨ac, h1, v1⟩ := w16_mul va vc (by omega)
  obtain ⟨bd, h2, v2⟩ := w16_mul vb vd (by omega)
  obtain ⟨ad, h4, v4⟩ := w16_mul va vd (by omega)
  obtain ⟨bc, h5, v5⟩ := w16_mul vb vc (by omega)
  obtain ⟨re, h3, v3⟩ := w16_sub v1 v2 (by omega)
  obtain ⟨im, h6, v6⟩ := w16_add v4 v5 (by omega)
  obtain ⟨x, h7, v7⟩ := w16_narrow v3 hr (by omega)
  obtain ⟨y, h8, v8⟩ := w16_narrow v6 hi (by omega)
  exact ⟨x, y, v7, v8, fun w => mul_calls a b c d a' b' c' d' ac bd ad bc re im x y w wa wb wc wd h1 h2 h3 h4 h5 h6 h7 h8⟩

/-- Division by 64. -/
theorem w16_div {x y : Nat} {n k : Int} (hx : W16 x n) (hy : W16 y 4194304) (hk : n = 16384 * k) (h : IB 10000 k) :
    ∃ r, floatBits .quo .f64 x y = some r ∧ W16 r (256 * k) := by
  unfold IB at h
  obtain ⟨b1, b2⟩ := cast_bd (n := k) (c := 10000) (by omega) (by omega)
  have e1 : ((10000 : Int) : Rat) = 10000 := rfl
  rw [e1] at b1 b2
  have e3 : ((16384 : Int) : Rat) = 16384 := rfl
  have e4 : ((4194304 : Int) : Rat) = 4194304 := rfl
  have e5 : ((256 : Int) : Rat) = 256 := rfl
  have hw : (k : Rat) / 256 * (((4194304 : Int) : Rat) / 65536) = (n : Rat) / 65536 := by
    rw [hk, Rat.intCast_mul, e3, e4]; grind
  have he : (k : Rat) / 256 = ((256 * k : Int) : Rat) / 65536 := by rw [Rat.intCast_mul, e5]; grind
  obtain ⟨r, hr, z, hz, hn⟩ := hx.div roomy64 hy (by rw [e4]; decide +kernel) hw 65536 (by grind) (by grind) (by have := P_1023; grind)
  refine ⟨r, hr, ?_⟩
  have := hn.2.2.1 (by rw [he]; exact has64 (by omega))
  rw [this, he] at hz
  exact hz

/-- The quotient of a load in sixteenths and a voltage of size 8. -/
theorem quotx {a b c d : Nat} {L1 L2 C D k1 k2 : Int} (ha : Q8 a (16 * L1)) (hb : Q8 b (16 * L2)) (hc : Q8 c C) (hd : Q8 d D)
    (kL1 : IB 16 L1) (kL2 : IB 16 L2) (kC : IB 2048 C) (kD : IB 2048 D) (hp : C * C + D * D = 4194304)
    (hr : 16 * L1 * C - 16 * L2 * -D = 16384 * k1) (hi : 16 * L1 * -D + 16 * L2 * C = 16384 * k2) :
    ∃ x y, Q8 x k1 ∧ Q8 y k2 ∧
      ∀ w, Calls Try.prog 37 #[.complex .f32 a b, .complex .f32 c d] w fun e w' => e = .returned (.complex .f32 x y) ∧ w' = w := by
  have hn := q8_neg hd
  obtain ⟨a', wa, va⟩ := ha.wide
  obtain ⟨b', wb, vb⟩ := hb.wide
  obtain ⟨c', wc, vc⟩ := hc.wide
  obtain ⟨d', wd, vd⟩ := hd.wide
  obtain ⟨n', wn, vn⟩ := hn.wide
  have j1 : IB 256 (16 * L1) := by unfold IB at *; omega
  have j2 : IB 256 (16 * L2) := by unfold IB at *; omega
  have jD : IB 2048 (-D) := by unfold IB at *; omega
  have m1 := mul_bd j1 kC; have m2 := mul_bd j2 jD; have m3 := mul_bd j1 jD; have m4 := mul_bd j2 kC; have m5 := mul_bd kC kC; have m6 := mul_bd kD kD
  unfold IB at m1 m2 m3 m4 m5 m6
  obtain ⟨ac, h1, v1⟩ := w16_mul va vc (by omega)
  obtain ⟨bd, h2, v2⟩ := w16_mul vb vn (by omega)
  obtain ⟨ad, h4, v4⟩ := w16_mul va vn (by omega)
  obtain ⟨bc, h5, v5⟩ := w16_mul vb vc (by omega)
  obtain ⟨re, h3, v3⟩ := w16_sub v1 v2 (by omega)
  obtain ⟨im, h6, v6⟩ := w16_add v4 v5 (by omega)
  obtain ⟨cc, h7, v7⟩ := w16_mul vc vc (by omega)
  obtain ⟨dd, h8, v8⟩ := w16_mul vd vd (by omega)
  obtain ⟨p, h9, v9⟩ := w16_add v7 v8 (by omega)
  rw [hp] at v9
  obtain ⟨qr, h10, v10⟩ := w16_div v3 v9 hr (by unfold IB; omega)
  obtain ⟨qi, h11, v11⟩ := w16_div v6 v9 hi (by unfold IB; omega)
  obtain ⟨x, h12, v12⟩ := w16_narrow v10 rfl (by omega)
  obtain ⟨y, h13, v13⟩ := w16_narrow v11 rfl (by omega)
  exact ⟨x, y, v12, v13, fun w => quot_calls a b c d a' b' c' d' n' ac bd ad bc re im cc dd p qr qi x y w wa wb wc wd wn h1 h2 h3 h4 h5 h6 h7 h8 h9 h10 h11 h12 h13⟩

/-- What a load that is a power draws at a voltage of size 8. -/
theorem take0 {a b c d : Nat} {L1 L2 C D k1 k2 : Int} (ha : Q8 a (16 * L1)) (hb : Q8 b (16 * L2)) (hc : Q8 c C) (hd : Q8 d D)
    (kL1 : IB 16 L1) (kL2 : IB 16 L2) (kC : IB 2048 C) (kD : IB 2048 D) (hp : C * C + D * D = 4194304)
    (hr : 16 * L1 * C - 16 * L2 * -D = 16384 * k1) (hi : 16 * L1 * -D + 16 * L2 * C = 16384 * k2) :
    ∃ x y, Q8 x k1 ∧ Q8 y (-k2) ∧ ∀ (p : Nat) w, w.cell? ⟨p, 3, none⟩ = some (.int .i64 0) →
      Calls Try.prog 35 #[.complex .f32 a b, .complex .f32 c d, .pointer (some ⟨p, 0, none⟩)] w fun e w' => e = .returned (.complex .f32 x y) ∧ w' = w := by
  by_cases h0 : L1 = 0 ∧ L2 = 0
  · obtain ⟨rfl, rfl⟩ := h0
    have e1 : k1 = 0 := by omega
    have e2 : k2 = 0 := by omega
    subst e1; subst e2
    exact ⟨0, 0, q8_zero, q8_zero, fun p w _ => load_zero a b c d p w (by rw [zt ha, zt hb]; rfl)⟩
  · obtain ⟨x, y, vx, vy, f⟩ := quotx ha hb hc hd kL1 kL2 kC kD hp hr hi
    have hz : (FloatKind.f32.format.order a 0 == some .eq && FloatKind.f32.format.order b 0 == some .eq) = false := by
      rw [zt ha, zt hb, Bool.and_eq_false_iff]
      by_cases h1 : L1 = 0
      · right; exact decide_eq_false (by omega)
      · left; exact decide_eq_false (by omega)
    exact ⟨x, _, vx, q8_neg vy, fun p w hK => load_power a b c d p x y w hz hK f⟩

/-- What a load that is a current draws. -/
theorem take1 {a b : Nat} (c d : Nat) {L1 L2 : Int} (ha : Q8 a (16 * L1)) (hb : Q8 b (16 * L2)) :
    ∃ x y, Q8 x (16 * L1) ∧ Q8 y (16 * L2) ∧ ∀ (p : Nat) w, w.cell? ⟨p, 3, none⟩ = some (.int .i64 1) →
      Calls Try.prog 35 #[.complex .f32 a b, .complex .f32 c d, .pointer (some ⟨p, 0, none⟩)] w fun e w' => e = .returned (.complex .f32 x y) ∧ w' = w := by
  by_cases h0 : L1 = 0 ∧ L2 = 0
  · obtain ⟨rfl, rfl⟩ := h0
    exact ⟨0, 0, q8_zero, q8_zero, fun p w _ => load_zero a b c d p w (by rw [zt ha, zt hb]; rfl)⟩
  · have hz : (FloatKind.f32.format.order a 0 == some .eq && FloatKind.f32.format.order b 0 == some .eq) = false := by
      rw [zt ha, zt hb, Bool.and_eq_false_iff]
      by_cases h1 : L1 = 0
      · right; exact decide_eq_false (by omega)
      · left; exact decide_eq_false (by omega)
    exact ⟨a, b, ha, hb, fun p w hK => load_current a b c d p w hz hK⟩
end Go.Proofs.Ytacigddenamphaa
