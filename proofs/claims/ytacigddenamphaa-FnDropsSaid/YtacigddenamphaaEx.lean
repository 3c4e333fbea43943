/- Numbers in sixteenths and their products: nothing is rounded. -/
import Derived.Test.YtacigddenamphaaNum
import Derived.Test.YtacigddenamphaaWk12
namespace Go.Proofs.Ytacigddenamphaa
open Go.RowKit Flt

/-- The word x stands for n / 2 ^ 8, a small number. -/
def Q8 (x : Nat) (n : Int) : Prop := V32 x ((n : Rat) / 256)

theorem has32 {n : Int} (h : n.natAbs < 16777216) : Has Ieee.single ((n : Rat) / 256) :=
  ⟨n, -8, by have : P (-8) = 1 / 256 := by decide +kernel
             rw [this]; grind, h, by decide⟩
theorem has64 {n : Int} (h : n.natAbs < 9007199254740992) : Has Ieee.double ((n : Rat) / 65536) :=
  ⟨n, -16, by have : P (-16) = 1 / 65536 := by decide +kernel
              rw [this]; grind, h, by decide⟩

theorem cast_bd {n : Int} {c : Int} (h1 : n ≤ c) (h2 : -c ≤ n) : (n : Rat) ≤ (c : Rat) ∧ -(c : Rat) ≤ (n : Rat) := by
  refine ⟨Rat.intCast_le_intCast.2 h1, ?_⟩
  have := Rat.intCast_le_intCast.2 h2
  rwa [Rat.intCast_neg] at this

theorem q8_add {x y : Nat} {m n : Int} (hx : Q8 x m) (hy : Q8 y n) (h : -16777216 < m + n ∧ m + n < 16777216) : ∃ r, floatBits .add .f32 x y = some r ∧ Q8 r (m + n) := by
  obtain ⟨b1, b2⟩ := cast_bd (n := m + n) (c := 16777216) (by omega) (by omega)
  rw [Rat.intCast_add] at b1 b2
  have e1 : ((16777216 : Int) : Rat) = 16777216 := rfl
  rw [e1] at b1 b2
  obtain ⟨r, hr, z, hz, hn⟩ := hx.add roomy32 hy 65536 (by grind) (by grind) (by have := P_127; grind)
  have he : (m : Rat) / 256 + (n : Rat) / 256 = ((m + n : Int) : Rat) / 256 := by rw [Rat.intCast_add]; grind
  refine ⟨r, hr, ?_⟩
  have := hn.2.2.1 (by rw [he]; exact has32 (by omega))
  rw [this, he] at hz
  exact hz
theorem q8_sub {x y : Nat} {m n : Int} (hx : Q8 x m) (hy : Q8 y n) (h : -16777216 < m - n ∧ m - n < 16777216) : ∃ r, floatBits .sub .f32 x y = some r ∧ Q8 r (m - n) := by
  obtain ⟨b1, b2⟩ := cast_bd (n := m - n) (c := 16777216) (by omega) (by omega)
  rw [Rat.intCast_sub] at b1 b2
  have e1 : ((16777216 : Int) : Rat) = 16777216 := rfl
  rw [e1] at b1 b2
  obtain ⟨r, hr, z, hz, hn⟩ := hx.sub roomy32 hy 65536 (by grind) (by grind) (by have := P_127; grind)
  have he : (m : Rat) / 256 - (n : Rat) / 256 = ((m - n : Int) : Rat) / 256 := by rw [Rat.intCast_sub]; grind
  refine ⟨r, hr, ?_⟩
  have := hn.2.2.1 (by rw [he]; exact has32 (by omega))
  rw [this, he] at hz
  exact hz

/-- 64-bit numbers in units of 2 ^ -16. -/
def W16 (x : Nat) (n : Int) : Prop := V64 x ((n : Rat) / 65536)

theorem w16_mul {x y : Nat} {m n : Int} (hx : V64 x ((m : Rat) / 256)) (hy : V64 y ((n : Rat) / 256)) (h : -4294967296 < m * n ∧ m * n < 4294967296) : ∃ r, floatBits .mul .f64 x y = some r ∧ W16 r (m * n) := by
  obtain ⟨b1, b2⟩ := cast_bd (n := m * n) (c := 4294967296) (by omega) (by omega)
  rw [Rat.intCast_mul] at b1 b2
  have e1 : ((4294967296 : Int) : Rat) = 4294967296 := rfl
  rw [e1] at b1 b2
  have he : (m : Rat) / 256 * ((n : Rat) / 256) = ((m * n : Int) : Rat) / 65536 := by rw [Rat.intCast_mul]; grind
  have he' : ((m * n : Int) : Rat) = (m : Rat) * (n : Rat) := Rat.intCast_mul m n
  obtain ⟨r, hr, z, hz, hn⟩ := hx.mul roomy64 hy 65536 (by rw [he, he']; grind) (by rw [he, he']; grind) (by have := P_1023; grind)
  refine ⟨r, hr, ?_⟩
  have := hn.2.2.1 (by rw [he]; exact has64 (by omega))
  rw [this, he] at hz
  exact hz
theorem w16_add {x y : Nat} {m n : Int} (hx : W16 x m) (hy : W16 y n) (h : -4294967296 < m + n ∧ m + n < 4294967296) : ∃ r, floatBits .add .f64 x y = some r ∧ W16 r (m + n) := by
  obtain ⟨b1, b2⟩ := cast_bd (n := m + n) (c := 4294967296) (by omega) (by omega)
  rw [Rat.intCast_add] at b1 b2
  have e1 : ((4294967296 : Int) : Rat) = 4294967296 := rfl
  rw [e1] at b1 b2
  obtain ⟨r, hr, z, hz, hn⟩ := hx.add roomy64 hy 65536 (by grind) (by grind) (by have := P_1023; grind)
  have he : (m : Rat) / 65536 + (n : Rat) / 65536 = ((m + n : Int) : Rat) / 65536 := by rw [Rat.intCast_add]; grind
  refine ⟨r, hr, ?_⟩
  have := hn.2.2.1 (by rw [he]; exact has64 (by omega))
  rw [this, he] at hz
  exact hz
theorem w16_sub {x y : Nat} {m n : Int} (hx : W16 x m) (hy : W16 y n) (h : -4294967296 < m - n ∧ m - n < 4294967296) : ∃ r, floatBits .sub .f64 x y = some r ∧ W16 r (m - n) := by
  obtain ⟨b1, b2⟩ := cast_bd (n := m - n) (c := 4294967296) (by omega) (by omega)
  rw [Rat.intCast_sub] at b1 b2
  have e1 : ((4294967296 : Int) : Rat) = 4294967296 := rfl
  rw [e1] at b1 b2
  obtain ⟨r, hr, z, hz, hn⟩ := hx.sub roomy64 hy 65536 (by grind) (by grind) (by have := P_1023; grind)
  have he : (m : Rat) / 65536 - (n : Rat) / 65536 = ((m - n : Int) : Rat) / 65536 := by rw [Rat.intCast_sub]; grind
  refine ⟨r, hr, ?_⟩
  have := hn.2.2.1 (by rw [he]; exact has64 (by omega))
  rw [this, he] at hz
  exact hz
/-- Narrowing of what is a whole number of 256ths. -/
theorem w16_narrow {x : Nat} {n k : Int} (hx : W16 x n) (hk : n = 256 * k) (h : -16777216 < k ∧ k < 16777216) : ∃ r, floatToFloatBits .f64 x .f32 = some r ∧ Q8 r k := by
  obtain ⟨b1, b2⟩ := cast_bd (n := k) (c := 16777216) (by omega) (by omega)
  have e1 : ((16777216 : Int) : Rat) = 16777216 := rfl
  rw [e1] at b1 b2
  have he : (n : Rat) / 65536 = (k : Rat) / 256 := by
    rw [hk, Rat.intCast_mul]
    have : ((256 : Int) : Rat) = 256 := rfl
    rw [this]; grind
  obtain ⟨r, hr, z, hz, hn⟩ := hx.narrow 65536 (by rw [he]; grind) (by rw [he]; grind) (by have := P_127; grind)
  refine ⟨r, hr, ?_⟩
  have := hn.2.2.1 (by rw [he]; exact has32 (by omega))
  rw [this, he] at hz
  exact hz

/-- The exact product: parts in 16ths of both, the result in 256ths. -/
theorem mulx {a b c d : Nat} {p1 p2 q1 q2 : Int} (ha : Q8 a (16 * p1)) (hb : Q8 b (16 * p2)) (hc : Q8 c (16 * q1)) (hd : Q8 d (16 * q2))
    (k1 : -65536 < p1 * q1 ∧ p1 * q1 < 65536) (k2 : -65536 < p2 * q2 ∧ p2 * q2 < 65536) (k3 : -65536 < p1 * q2 ∧ p1 * q2 < 65536) (k4 : -65536 < p2 * q1 ∧ p2 * q1 < 65536) :
    ∃ r i, Q8 r (p1 * q1 - p2 * q2) ∧ Q8 i (p1 * q2 + p2 * q1) ∧
      ∀ w, Calls Try.prog 26 #[.complex .f32 a b, .complex .f32 c d] w fun e w' => e = .returned (.complex .f32 r i) ∧ w' = w := by
  obtain ⟨a', wa, va⟩ := ha.wide
  obtain ⟨b', wb, vb⟩ := hb.wide
  obtain ⟨c', wc, vc⟩ := hc.wide
  obtain ⟨d', wd, vd⟩ := hd.wide
  have e1 : 16 * p1 * (16 * q1) = 256 * (p1 * q1) := by grind
  have e2 : 16 * p2 * (16 * q2) = 256 * (p2 * q2) := by grind
  have e3 : 16 * p1 * (16 * q2) = 256 * (p1 * q2) := by grind
  have e4 : 16 * p2 * (16 * q1) = 256 * (p2 * q1) := by grind
  obtain ⟨ac, h1, v1⟩ := w16_mul va vc (by rw [e1]; omega)
  obtain ⟨bd, h2, v2⟩ := w16_mul vb vd (by rw [e2]; omega)
  obtain ⟨ad, h4, v4⟩ := w16_mul va vd (by rw [e3]; omega)
  obtain ⟨bc, h5, v5⟩ := w16_mul vb vc (by rw [e4]; omega)
  rw [e1] at v1; rw [e2] at v2; rw [e3] at v4; rw [e4] at v5
  obtain ⟨re, h3, v3⟩ := w16_sub v1 v2 (by omega)
  obtain ⟨im, h6, v6⟩ := w16_add v4 v5 (by omega)
  obtain ⟨r, h7, v7⟩ := w16_narrow v3 (k := p1 * q1 - p2 * q2) (by omega) (by omega)
  obtain ⟨i, h8, v8⟩ := w16_narrow v6 (k := p1 * q2 + p2 * q1) (by omega) (by omega)
  exact ⟨r, i, v7, v8, fun w => mul_calls a b c d a' b' c' d' ac bd ad bc re im r i w wa wb wc wd h1 h2 h3 h4 h5 h6 h7 h8⟩

theorem q8_eq {x y : Nat} {n : Int} (hx : Q8 x n) (hy : Q8 y n) : Op.floatEq .f32 x y = true := by
  have e : FloatKind.f32.format.order x y = some .eq := by
    have := hx.order hy
    rw [if_neg (by grind), if_pos rfl] at this
    exact this
  unfold Op.floatEq
  rw [e]; rfl

theorem eq24 (n a b c d : Nat) (h1 : Op.floatEq .f32 a c = true) (h2 : Op.floatEq .f32 b d = true) (w : World) :
    (Op.equalIn (n + 1) 24 (.complex .f32 a b) (.complex .f32 c d)).run Try.prog w = .ok true w := by
  unfold Op.equalIn
  simp [run_underlying Try.underlying24, h1, h2]

theorem neq_run (a1 a2 b1 b2 c1 c2 d1 d2 e1 e2 f1 f2 : Nat) (h1 : Op.floatEq .f32 a1 d1 = true) (h2 : Op.floatEq .f32 a2 d2 = true)
    (h3 : Op.floatEq .f32 b1 e1 = true) (h4 : Op.floatEq .f32 b2 e2 = true) (h5 : Op.floatEq .f32 c1 f1 = true) (h6 : Op.floatEq .f32 c2 f2 = true) (w : World) :
    (binOp .neq 26 (.agg #[.complex .f32 a1 a2, .complex .f32 b1 b2, .complex .f32 c1 c2]) (.agg #[.complex .f32 d1 d2, .complex .f32 e1 e2, .complex .f32 f1 f2])).run Try.prog w = .ok (.bool false) w := by
  have q1 := eq24 9998 a1 a2 d1 d2 h1 h2
  have q2 := eq24 9998 b1 b2 e1 e2 h3 h4
  have q3 := eq24 9998 c1 c2 f1 f2 h5 h6
  go_simp

/-- x is of size at most c. -/
def IB (c x : Int) : Prop := -c ≤ x ∧ x ≤ c
theorem mul_bd {x y a b : Int} (hx : IB a x) (hy : IB b y) : IB (a * b) (x * y) := by
  unfold IB at *
  have h1 : (x * y).natAbs ≤ a.toNat * b.toNat := by
    rw [Int.natAbs_mul]; exact Nat.mul_le_mul (by omega) (by omega)
  have h2 : ((a.toNat * b.toNat : Nat) : Int) = a * b := by
    rw [Int.natCast_mul, Int.toNat_of_nonneg (by omega), Int.toNat_of_nonneg (by omega)]
  omega

/-- One phase of the drop. -/
theorem linex {o1 o2 h1 h2 a1 a2 b1 b2 c1 c2 : Nat} {O1 O2 H1 H2 A1 A2 B1 B2 C1 C2 : Int}
    (vo1 : Q8 o1 (16 * O1)) (vo2 : Q8 o2 (16 * O2)) (vh1 : Q8 h1 (16 * H1)) (vh2 : Q8 h2 (16 * H2))
    (va1 : Q8 a1 (16 * A1)) (va2 : Q8 a2 (16 * A2)) (vb1 : Q8 b1 (16 * B1)) (vb2 : Q8 b2 (16 * B2)) (vc1 : Q8 c1 (16 * C1)) (vc2 : Q8 c2 (16 * C2))
    (kO1 : IB 16 O1) (kO2 : IB 16 O2) (kH1 : IB 16 H1) (kH2 : IB 16 H2)
    (kA1 : IB 32 A1) (kA2 : IB 32 A2) (kB1 : IB 32 B1) (kB2 : IB 32 B2) (kC1 : IB 32 C1) (kC2 : IB 32 C2) :
    ∃ r1 r2, Q8 r1 (O1 * A1 - O2 * A2 + (H1 * (B1 + C1) - H2 * (B2 + C2))) ∧ Q8 r2 (O1 * A2 + O2 * A1 + (H1 * (B2 + C2) + H2 * (B1 + C1))) ∧
      IB 3072 (O1 * A1 - O2 * A2 + (H1 * (B1 + C1) - H2 * (B2 + C2))) ∧ IB 3072 (O1 * A2 + O2 * A1 + (H1 * (B2 + C2) + H2 * (B1 + C1))) ∧
      ∀ (p : Nat) w, w.cell? ⟨p, 1, none⟩ = some (.complex .f32 o1 o2) → w.cell? ⟨p, 2, none⟩ = some (.complex .f32 h1 h2) →
        Calls Try.prog 31 #[.complex .f32 a1 a2, .complex .f32 b1 b2, .complex .f32 c1 c2, .pointer (some ⟨p, 0, none⟩)] w fun e w' => e = .returned (.complex .f32 r1 r2) ∧ Ext w w' := by
  have m1 := mul_bd kO1 kA1; have m2 := mul_bd kO2 kA2; have m3 := mul_bd kO1 kA2; have m4 := mul_bd kO2 kA1
  have k5 : IB 64 (B1 + C1) := by unfold IB at *; omega
  have k6 : IB 64 (B2 + C2) := by unfold IB at *; omega
  have m5 := mul_bd kH1 k5; have m6 := mul_bd kH2 k6; have m7 := mul_bd kH1 k6; have m8 := mul_bd kH2 k5
  unfold IB at *
  obtain ⟨x1, x2, vx1, vx2, f1⟩ := mulx vo1 vo2 va1 va2 (by omega) (by omega) (by omega) (by omega)
  obtain ⟨s1, e1, vs1⟩ := q8_add vb1 vc1 (by omega)
  obtain ⟨s2, e2, vs2⟩ := q8_add vb2 vc2 (by omega)
  rw [show 16 * B1 + 16 * C1 = 16 * (B1 + C1) by omega] at vs1
  rw [show 16 * B2 + 16 * C2 = 16 * (B2 + C2) by omega] at vs2
  obtain ⟨y1, y2, vy1, vy2, f2⟩ := mulx vh1 vh2 vs1 vs2 (by omega) (by omega) (by omega) (by omega)
  obtain ⟨r1, e3, vr1⟩ := q8_add vx1 vy1 (by omega)
  obtain ⟨r2, e4, vr2⟩ := q8_add vx2 vy2 (by omega)
  exact ⟨r1, r2, vr1, vr2, by omega, by omega, fun p w hO hH => line_calls o1 o2 h1 h2 a1 a2 b1 b2 c1 c2 x1 x2 s1 s2 y1 y2 r1 r2 p w hO hH f1 e1 e2 f2 e3 e4⟩
end Go.Proofs.Ytacigddenamphaa
