/- Drops, sums and loads of numbers in sixteenths. -/
import Derived.Test.YtacigddenamphaaEx
namespace Go.Proofs.Ytacigddenamphaa
open Go.RowKit Flt

def lr (O1 O2 H1 H2 A1 A2 S1 S2 : Int) : Int := O1 * A1 - O2 * A2 + (H1 * S1 - H2 * S2)
def li (O1 O2 H1 H2 A1 A2 S1 S2 : Int) : Int := O1 * A2 + O2 * A1 + (H1 * S2 + H2 * S1)

/-- The drop of a line, all three phases. -/
theorem dropx (K : Int) {o1 o2 h1 h2 a1 a2 b1 b2 c1 c2 : Nat} {O1 O2 H1 H2 A1 A2 B1 B2 C1 C2 : Int} (l1 l2 m1 m2 n1 n2 : Nat)
    (vo1 : Q8 o1 (16 * O1)) (vo2 : Q8 o2 (16 * O2)) (vh1 : Q8 h1 (16 * H1)) (vh2 : Q8 h2 (16 * H2))
    (va1 : Q8 a1 (16 * A1)) (va2 : Q8 a2 (16 * A2)) (vb1 : Q8 b1 (16 * B1)) (vb2 : Q8 b2 (16 * B2)) (vc1 : Q8 c1 (16 * C1)) (vc2 : Q8 c2 (16 * C2))
    (kO1 : IB 16 O1) (kO2 : IB 16 O2) (kH1 : IB 16 H1) (kH2 : IB 16 H2)
    (kA1 : IB 32 A1) (kA2 : IB 32 A2) (kB1 : IB 32 B1) (kB2 : IB 32 B2) (kC1 : IB 32 C1) (kC2 : IB 32 C2) :
    ∃ x1 x2 y1 y2 z1 z2, Q8 x1 (lr O1 O2 H1 H2 A1 A2 (B1 + C1) (B2 + C2)) ∧ Q8 x2 (li O1 O2 H1 H2 A1 A2 (B1 + C1) (B2 + C2)) ∧
      Q8 y1 (lr O1 O2 H1 H2 B1 B2 (C1 + A1) (C2 + A2)) ∧ Q8 y2 (li O1 O2 H1 H2 B1 B2 (C1 + A1) (C2 + A2)) ∧
      Q8 z1 (lr O1 O2 H1 H2 C1 C2 (A1 + B1) (A2 + B2)) ∧ Q8 z2 (li O1 O2 H1 H2 C1 C2 (A1 + B1) (A2 + B2)) ∧
      (IB 3072 (lr O1 O2 H1 H2 A1 A2 (B1 + C1) (B2 + C2)) ∧ IB 3072 (li O1 O2 H1 H2 A1 A2 (B1 + C1) (B2 + C2)) ∧
      IB 3072 (lr O1 O2 H1 H2 B1 B2 (C1 + A1) (C2 + A2)) ∧ IB 3072 (li O1 O2 H1 H2 B1 B2 (C1 + A1) (C2 + A2)) ∧
      IB 3072 (lr O1 O2 H1 H2 C1 C2 (A1 + B1) (A2 + B2)) ∧ IB 3072 (li O1 O2 H1 H2 C1 C2 (A1 + B1) (A2 + B2))) ∧
      ∀ w, Calls Try.prog 18 #[.agg #[.int .i64 0, .complex .f32 o1 o2, .complex .f32 h1 h2, .int .i64 K, .complex .f32 l1 l2, .complex .f32 m1 m2, .complex .f32 n1 n2, .int .i64 0],
        .agg #[.complex .f32 a1 a2, .complex .f32 b1 b2, .complex .f32 c1 c2]] w fun e w' => e = .returned (.agg #[.complex .f32 x1 x2, .complex .f32 y1 y2, .complex .f32 z1 z2]) ∧ Ext w w' := by
  obtain ⟨x1, x2, vx1, vx2, bx1, bx2, f1⟩ := linex vo1 vo2 vh1 vh2 va1 va2 vb1 vb2 vc1 vc2 kO1 kO2 kH1 kH2 kA1 kA2 kB1 kB2 kC1 kC2
  obtain ⟨y1, y2, vy1, vy2, by1, by2, f2⟩ := linex vo1 vo2 vh1 vh2 vb1 vb2 vc1 vc2 va1 va2 kO1 kO2 kH1 kH2 kB1 kB2 kC1 kC2 kA1 kA2
  obtain ⟨z1, z2, vz1, vz2, bz1, bz2, f3⟩ := linex vo1 vo2 vh1 vh2 vc1 vc2 va1 va2 vb1 vb2 kO1 kO2 kH1 kH2 kC1 kC2 kA1 kA2 kB1 kB2
  exact ⟨x1, x2, y1, y2, z1, z2, vx1, vx2, vy1, vy2, vz1, vz2, ⟨bx1, bx2, by1, by2, bz1, bz2⟩,
    fun w => drop_calls 0 K 0 o1 o2 h1 h2 l1 l2 m1 m2 n1 n2 a1 a2 b1 b2 c1 c2 x1 x2 y1 y2 z1 z2 w f1 f2 f3⟩

theorem addpx {a1 a2 b1 b2 c1 c2 d1 d2 e1 e2 f1 f2 : Nat} {A1 A2 B1 B2 C1 C2 D1 D2 E1 E2 F1 F2 : Int}
    (va1 : Q8 a1 A1) (va2 : Q8 a2 A2) (vb1 : Q8 b1 B1) (vb2 : Q8 b2 B2) (vc1 : Q8 c1 C1) (vc2 : Q8 c2 C2)
    (vd1 : Q8 d1 D1) (vd2 : Q8 d2 D2) (ve1 : Q8 e1 E1) (ve2 : Q8 e2 E2) (vf1 : Q8 f1 F1) (vf2 : Q8 f2 F2)
    (kA1 : IB 4000 A1) (kA2 : IB 4000 A2) (kB1 : IB 4000 B1) (kB2 : IB 4000 B2) (kC1 : IB 4000 C1) (kC2 : IB 4000 C2)
    (kD1 : IB 4000 D1) (kD2 : IB 4000 D2) (kE1 : IB 4000 E1) (kE2 : IB 4000 E2) (kF1 : IB 4000 F1) (kF2 : IB 4000 F2) :
    ∃ x1 x2 y1 y2 z1 z2, Q8 x1 (A1 + D1) ∧ Q8 x2 (A2 + D2) ∧ Q8 y1 (B1 + E1) ∧ Q8 y2 (B2 + E2) ∧ Q8 z1 (C1 + F1) ∧ Q8 z2 (C2 + F2) ∧
      ∀ w, Calls Try.prog 19 #[.agg #[.complex .f32 a1 a2, .complex .f32 b1 b2, .complex .f32 c1 c2], .agg #[.complex .f32 d1 d2, .complex .f32 e1 e2, .complex .f32 f1 f2]] w fun e w' =>
        e = .returned (.agg #[.complex .f32 x1 x2, .complex .f32 y1 y2, .complex .f32 z1 z2]) ∧ Ext w w' := by
  unfold IB at *
  obtain ⟨x1, g1, vx1⟩ := q8_add va1 vd1 (by omega)
  obtain ⟨x2, g2, vx2⟩ := q8_add va2 vd2 (by omega)
  obtain ⟨y1, g3, vy1⟩ := q8_add vb1 ve1 (by omega)
  obtain ⟨y2, g4, vy2⟩ := q8_add vb2 ve2 (by omega)
  obtain ⟨z1, g5, vz1⟩ := q8_add vc1 vf1 (by omega)
  obtain ⟨z2, g6, vz2⟩ := q8_add vc2 vf2 (by omega)
  exact ⟨x1, x2, y1, y2, z1, z2, vx1, vx2, vy1, vy2, vz1, vz2, fun w => add_calls a1 a2 b1 b2 c1 c2 d1 d2 e1 e2 f1 f2 x1 x2 y1 y2 z1 z2 w
    (fun w => plus_calls _ _ _ _ _ _ w g1 g2) (fun w => plus_calls _ _ _ _ _ _ w g3 g4) (fun w => plus_calls _ _ _ _ _ _ w g5 g6)⟩

theorem lesspx {a1 a2 b1 b2 c1 c2 d1 d2 e1 e2 f1 f2 : Nat} {A1 A2 B1 B2 C1 C2 D1 D2 E1 E2 F1 F2 : Int}
    (va1 : Q8 a1 A1) (va2 : Q8 a2 A2) (vb1 : Q8 b1 B1) (vb2 : Q8 b2 B2) (vc1 : Q8 c1 C1) (vc2 : Q8 c2 C2)
    (vd1 : Q8 d1 D1) (vd2 : Q8 d2 D2) (ve1 : Q8 e1 E1) (ve2 : Q8 e2 E2) (vf1 : Q8 f1 F1) (vf2 : Q8 f2 F2)
    (kA1 : IB 4000 A1) (kA2 : IB 4000 A2) (kB1 : IB 4000 B1) (kB2 : IB 4000 B2) (kC1 : IB 4000 C1) (kC2 : IB 4000 C2)
    (kD1 : IB 4000 D1) (kD2 : IB 4000 D2) (kE1 : IB 4000 E1) (kE2 : IB 4000 E2) (kF1 : IB 4000 F1) (kF2 : IB 4000 F2) :
    ∃ x1 x2 y1 y2 z1 z2, Q8 x1 (A1 - D1) ∧ Q8 x2 (A2 - D2) ∧ Q8 y1 (B1 - E1) ∧ Q8 y2 (B2 - E2) ∧ Q8 z1 (C1 - F1) ∧ Q8 z2 (C2 - F2) ∧
      ∀ w, Calls Try.prog 20 #[.agg #[.complex .f32 a1 a2, .complex .f32 b1 b2, .complex .f32 c1 c2], .agg #[.complex .f32 d1 d2, .complex .f32 e1 e2, .complex .f32 f1 f2]] w fun e w' =>
        e = .returned (.agg #[.complex .f32 x1 x2, .complex .f32 y1 y2, .complex .f32 z1 z2]) ∧ Ext w w' := by
  unfold IB at *
  obtain ⟨x1, g1, vx1⟩ := q8_sub va1 vd1 (by omega)
  obtain ⟨x2, g2, vx2⟩ := q8_sub va2 vd2 (by omega)
  obtain ⟨y1, g3, vy1⟩ := q8_sub vb1 ve1 (by omega)
  obtain ⟨y2, g4, vy2⟩ := q8_sub vb2 ve2 (by omega)
  obtain ⟨z1, g5, vz1⟩ := q8_sub vc1 vf1 (by omega)
  obtain ⟨z2, g6, vz2⟩ := q8_sub vc2 vf2 (by omega)
  exact ⟨x1, x2, y1, y2, z1, z2, vx1, vx2, vy1, vy2, vz1, vz2, fun w => less_calls a1 a2 b1 b2 c1 c2 d1 d2 e1 e2 f1 f2 x1 x2 y1 y2 z1 z2 w
    (fun w => minus_calls _ _ _ _ _ _ w g1 g2) (fun w => minus_calls _ _ _ _ _ _ w g3 g4) (fun w => minus_calls _ _ _ _ _ _ w g5 g6)⟩

/-- Twice a number. -/
theorem q8_two {x : Nat} {n : Int} (hx : Q8 x n) (h : IB 4000 n) : ∃ r, floatBits .mul .f32 x 1073741824 = some r ∧ Q8 r (2 * n) := by
  have h2 : V32 1073741824 2 := ⟨false, 8388608, -22, by decide +kernel, by decide +kernel⟩
  unfold IB at h
  obtain ⟨b1, b2⟩ := cast_bd (n := n) (c := 4000) (by omega) (by omega)
  have e1 : ((4000 : Int) : Rat) = 4000 := rfl
  rw [e1] at b1 b2
  have he : (n : Rat) / 256 * 2 = ((2 * n : Int) : Rat) / 256 := by
    rw [Rat.intCast_mul]
    have : ((2 : Int) : Rat) = 2 := rfl
    rw [this]; grind
  obtain ⟨r, hr, z, hz, hn⟩ := hx.mul roomy32 h2 65536 (by grind) (by grind) (by have := P_127; grind)
  refine ⟨r, hr, ?_⟩
  have := hn.2.2.1 (by rw [he]; exact has32 (by omega))
  rw [this, he] at hz
  exact hz

theorem scalepx {a1 a2 b1 b2 c1 c2 : Nat} {A1 A2 B1 B2 C1 C2 : Int}
    (va1 : Q8 a1 A1) (va2 : Q8 a2 A2) (vb1 : Q8 b1 B1) (vb2 : Q8 b2 B2) (vc1 : Q8 c1 C1) (vc2 : Q8 c2 C2)
    (kA1 : IB 4000 A1) (kA2 : IB 4000 A2) (kB1 : IB 4000 B1) (kB2 : IB 4000 B2) (kC1 : IB 4000 C1) (kC2 : IB 4000 C2) :
    ∃ x1 x2 y1 y2 z1 z2, Q8 x1 (2 * A1) ∧ Q8 x2 (2 * A2) ∧ Q8 y1 (2 * B1) ∧ Q8 y2 (2 * B2) ∧ Q8 z1 (2 * C1) ∧ Q8 z2 (2 * C2) ∧
      ∀ w, Calls Try.prog 21 #[.agg #[.complex .f32 a1 a2, .complex .f32 b1 b2, .complex .f32 c1 c2], .float .f32 1073741824] w fun e w' =>
        e = .returned (.agg #[.complex .f32 x1 x2, .complex .f32 y1 y2, .complex .f32 z1 z2]) ∧ Ext w w' := by
  obtain ⟨x1, g1, vx1⟩ := q8_two va1 kA1
  obtain ⟨x2, g2, vx2⟩ := q8_two va2 kA2
  obtain ⟨y1, g3, vy1⟩ := q8_two vb1 kB1
  obtain ⟨y2, g4, vy2⟩ := q8_two vb2 kB2
  obtain ⟨z1, g5, vz1⟩ := q8_two vc1 kC1
  obtain ⟨z2, g6, vz2⟩ := q8_two vc2 kC2
  exact ⟨x1, x2, y1, y2, z1, z2, vx1, vx2, vy1, vy2, vz1, vz2, fun w => scalep_calls a1 a2 b1 b2 c1 c2 1073741824 x1 x2 y1 y2 z1 z2 w
    (fun w => scale_calls _ _ _ _ _ w g1 g2) (fun w => scale_calls _ _ _ _ _ w g3 g4) (fun w => scale_calls _ _ _ _ _ w g5 g6)⟩

/-- Phases of the same numbers are equal. -/
theorem neqx {a1 a2 b1 b2 c1 c2 d1 d2 e1 e2 f1 f2 : Nat} {A1 A2 B1 B2 C1 C2 : Int}
    (va1 : Q8 a1 A1) (va2 : Q8 a2 A2) (vb1 : Q8 b1 B1) (vb2 : Q8 b2 B2) (vc1 : Q8 c1 C1) (vc2 : Q8 c2 C2)
    (vd1 : Q8 d1 A1) (vd2 : Q8 d2 A2) (ve1 : Q8 e1 B1) (ve2 : Q8 e2 B2) (vf1 : Q8 f1 C1) (vf2 : Q8 f2 C2) (w : World) :
    (binOp .neq 26 (.agg #[.complex .f32 a1 a2, .complex .f32 b1 b2, .complex .f32 c1 c2]) (.agg #[.complex .f32 d1 d2, .complex .f32 e1 e2, .complex .f32 f1 f2])).run Try.prog w = .ok (.bool false) w :=
  neq_run _ _ _ _ _ _ _ _ _ _ _ _ (q8_eq va1 vd1) (q8_eq va2 vd2) (q8_eq vb1 ve1) (q8_eq vb2 ve2) (q8_eq vc1 vf1) (q8_eq vc2 vf2) w

end Go.Proofs.Ytacigddenamphaa
