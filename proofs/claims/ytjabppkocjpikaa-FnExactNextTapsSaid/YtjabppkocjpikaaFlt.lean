/- The numbers that the words of a float format stand for, as rationals, and what the rounding of the model does to them. -/
import Ieee.Arith
import GoSem.Core.Float
import Derived.Laws.FloatArith
import GoSem.Op.Unary
namespace Go.Proofs.Ytjabppkocjpikaa.Flt
open Ieee

/-- Two to an integer power. -/
def P (e : Int) : Rat := (2 : Rat) ^ e

theorem P_pos (e : Int) : 0 < P e := Rat.zpow_pos (by decide)
theorem P_add (a b : Int) : P (a + b) = P a * P b := Rat.zpow_add (by decide) a b
theorem P_zero : P 0 = 1 := rfl
theorem lt_of_le_lt {a b c : Rat} (h : a ≤ b) (h' : b < c) : a < c := by grind
theorem lt_of_lt_le {a b c : Rat} (h : a < b) (h' : b ≤ c) : a < c := by grind
theorem P_nat (n : Nat) : P (n : Int) = ((2 ^ n : Nat) : Rat) := by
  unfold P
  rw [Rat.zpow_natCast, Rat.natCast_pow]; rfl
theorem P_nat_one_le (n : Nat) : 1 ≤ P (n : Int) := by
  rw [P_nat]
  have : 1 ≤ 2 ^ n := Nat.one_le_two_pow
  exact_mod_cast this
theorem P_mono {a b : Int} (h : a ≤ b) : P a ≤ P b := by
  obtain ⟨n, rfl⟩ := Int.le.dest h
  rw [P_add]
  have h1 := P_nat_one_le n
  have h2 := P_pos a
  have h3 := Rat.mul_le_mul_of_nonneg_left h1 (Rat.le_of_lt h2)
  rwa [Rat.mul_one] at h3
theorem P_lt {a b : Int} (h : a < b) : P a < P b := by
  have h1 : P a < P (a + 1) := by
    rw [P_add]
    have e1 : P 1 = 2 := rfl
    rw [e1]
    have := P_pos a
    grind
  exact lt_of_lt_le h1 (P_mono h)
theorem P_lt_imp {a b : Int} (h : P a < P b) : a < b := by
  apply Int.lt_of_not_ge
  intro h2
  exact absurd (P_mono h2) (Rat.not_le.2 h)
theorem P_split {a b : Int} (h : a ≤ b) : P b = ((2 ^ (b - a).toNat : Nat) : Rat) * P a := by
  rw [← P_nat, ← P_add]; congr 1; omega

def sg (s : Bool) : Rat := if s then -1 else 1

def dval : Datum → Rat
  | .number s m e => sg s * (m : Rat) * P e
  | _ => 0

/-- The word x stands for the number q. -/
def Val (f : Format) (x : Nat) (q : Rat) : Prop := ∃ s m e, f.read x = .number s m e ∧ q = sg s * (m : Rat) * P e

theorem cut_spec (neg : Bool) (n drop : Nat) :
    2 * (Toward.even.cut neg n drop * 2 ^ drop) ≤ 2 * n + 2 ^ drop ∧ 2 * n ≤ 2 * (Toward.even.cut neg n drop * 2 ^ drop) + 2 ^ drop := by
  unfold Toward.cut
  simp only [Nat.one_shiftLeft]
  have hlog : n < 2 ^ (n.log2 + 1) := Nat.lt_log2_self
  rcases Nat.le_total drop (n.log2 + 2) with hd | hd
  · rw [Nat.min_eq_left hd]
    generalize hg : 2 ^ drop = gap
    have hgp : 0 < gap := by rw [← hg]; exact Nat.two_pow_pos _
    have h1 := Nat.div_add_mod n gap
    have h2 := Nat.mod_lt n hgp
    generalize n / gap = low at *
    generalize n % gap = rest at *
    cases hm : (decide (gap < 2 * rest) || gap == 2 * rest && low % 2 == 1)
    · have hr : 2 * rest ≤ gap := by
        simp only [Bool.or_eq_false_iff, decide_eq_false_iff_not] at hm; omega
      simp only [Bool.toNat_false, Nat.add_zero]
      rw [Nat.mul_comm low gap]; omega
    · have hr : gap ≤ 2 * rest := by
        simp only [Bool.or_eq_true, decide_eq_true_eq, Bool.and_eq_true, beq_iff_eq] at hm; omega
      simp only [Bool.toNat_true]
      rw [Nat.add_mul, Nat.mul_comm low gap]; omega
  · have hgap : 2 * n < 2 ^ (min drop (n.log2 + 2)) := by
      rw [Nat.min_eq_right hd, Nat.pow_succ]; omega
    have hle : 2 ^ (min drop (n.log2 + 2)) ≤ 2 ^ drop := Nat.pow_le_pow_right (by decide) (Nat.min_le_left _ _)
    generalize 2 ^ (min drop (n.log2 + 2)) = gap at *
    have hlow : n / gap = 0 := Nat.div_eq_of_lt (by omega)
    have hrest : n % gap = n := Nat.mod_eq_of_lt (by omega)
    rw [hlow, hrest]
    have hm : (decide (gap < 2 * n) || gap == 2 * n && 0 % 2 == 1) = false := by
      simp; omega
    rw [hm]
    simp only [Bool.toNat_false]
    omega

theorem cut_exact (neg : Bool) (n drop : Nat) (h : 2 ^ drop ∣ n) : Toward.even.cut neg n drop * 2 ^ drop = n := by
  obtain ⟨c, rfl⟩ := h
  rcases Nat.eq_zero_or_pos c with rfl | hc
  · rw [Nat.mul_zero]
    unfold Toward.cut
    have : ∀ g : Nat, 0 < g → (decide (g < 2 * 0) || g == 2 * 0 && 0 % 2 == 1) = false := by intro g hg; simp
    simp only [Nat.zero_div, Nat.zero_mod, Nat.one_shiftLeft]
    rw [this _ (Nat.two_pow_pos _)]; simp
  · have hd : drop ≤ (2 ^ drop * c).log2 + 2 := by
      have : 2 ^ drop ≤ 2 ^ drop * c := Nat.le_mul_of_pos_right _ hc
      have := (Nat.le_log2 (by have := Nat.two_pow_pos drop; omega)).2 this
      omega
    unfold Toward.cut
    simp only [Nat.one_shiftLeft]
    rw [Nat.min_eq_left hd, Nat.mul_div_cancel_left _ (Nat.two_pow_pos _), Nat.mul_mod_right]
    have : ∀ g : Nat, 0 < g → (decide (g < 2 * 0) || g == 2 * 0 && c % 2 == 1) = false := by intro g hg; simp; omega
    rw [this _ (Nat.two_pow_pos _)]
    simp [Nat.mul_comm]

theorem binade_pos (f : Format) : 0 < f.binade := Nat.two_pow_pos _

theorem infRung_lt (f : Format) : f.infRung < f.signWeight := by
  unfold Format.infRung Format.signWeight Format.binade
  rw [Nat.pow_add]
  exact Nat.mul_lt_mul_of_pos_right (by have := Nat.two_pow_pos f.exponentBits; omega) (Nat.two_pow_pos _)

theorem word_parts (f : Format) (neg : Bool) (r : Nat) (h : r < f.signWeight) :
    (f.word neg r / f.signWeight % 2 == 1) = neg ∧ f.word neg r % f.signWeight = r := by
  unfold Format.word
  cases neg
  · simp only [Bool.false_eq_true, if_false]
    rw [Nat.div_eq_of_lt h, Nat.mod_eq_of_lt h]; exact ⟨rfl, rfl⟩
  · simp only [if_true]
    rw [Nat.add_div_left _ (by omega), Nat.div_eq_of_lt h, Nat.add_mod_left, Nat.mod_eq_of_lt h]; exact ⟨rfl, rfl⟩

theorem read_rung (f : Format) (neg : Bool) (L kept : Nat) (hk : kept ≤ 2 * f.binade) (hL : L = 0 ∨ f.binade ≤ kept)
    (hr : L * f.binade + kept < f.infRung) :
    ∃ m e, f.read (f.word neg (L * f.binade + kept)) = .number neg m e ∧ (m : Rat) * P e = (kept : Rat) * P (f.leastPlace + L) := by
  have hb := binade_pos f
  obtain ⟨h1, h2⟩ := word_parts f neg (L * f.binade + kept) (by have := infRung_lt f; omega)
  unfold Format.read
  simp only [h1, h2]
  by_cases hlow : L * f.binade + kept < f.binade
  · rw [if_pos hlow]
    have hL0 : L = 0 := by
      rcases hL with h | h
      · exact h
      · have := Nat.zero_le (L * f.binade); omega
    subst hL0
    exact ⟨_, _, rfl, by simp⟩
  · rw [if_neg hlow, if_pos hr]
    refine ⟨_, _, rfl, ?_⟩
    have hk1 : f.binade ≤ kept := by
      rcases hL with h | h
      · subst h; omega
      · exact h
    by_cases hk2 : kept = 2 * f.binade
    · have e1 : L * f.binade + kept = f.binade * (L + 2) := by rw [hk2, ← Nat.add_mul, Nat.mul_comm]
      rw [e1, Nat.mul_mod_right, Nat.mul_div_cancel_left _ hb, hk2]
      have : (f.leastPlace + ((L + 2 - 1 : Nat) : Int)) = (f.leastPlace + L) + 1 := by omega
      rw [this, P_add (f.leastPlace + L) 1]
      have : P 1 = 2 := rfl
      rw [this]
      simp only [Nat.add_zero, Rat.natCast_mul]
      have : ((2 : Nat) : Rat) = 2 := rfl
      grind
    · obtain ⟨c, rfl⟩ := Nat.le.dest hk1
      have hc : c < f.binade := by omega
      have e1 : L * f.binade + (f.binade + c) = f.binade * (L + 1) + c := by rw [Nat.mul_add, Nat.mul_comm L]; omega
      rw [e1, Nat.mul_add_mod, Nat.mod_eq_of_lt hc, Nat.mul_add_div hb, Nat.div_eq_of_lt hc]
      simp

/-- The place of the last digit that rounding keeps. -/
def lastOf (f : Format) (mag : Nat) (place : Int) : Int := max (place + mag.log2 - f.fractionBits) f.leastPlace

theorem mag_lt (mag : Nat) (place : Int) : (mag : Rat) * P place < P (mag.log2 + 1 + place) := by
  have h : mag < 2 ^ (mag.log2 + 1) := Nat.lt_log2_self
  have h' : (mag : Rat) < ((2 ^ (mag.log2 + 1) : Nat) : Rat) := Rat.natCast_lt_natCast.2 h
  rw [← P_nat] at h'
  rw [P_add]
  exact Rat.mul_lt_mul_of_pos_right h' (P_pos place)

theorem mag_ge (mag : Nat) (place : Int) (h0 : mag ≠ 0) : P (mag.log2 + place) ≤ (mag : Rat) * P place := by
  have h : 2 ^ mag.log2 ≤ mag := Nat.log2_self_le h0
  have h' : ((2 ^ mag.log2 : Nat) : Rat) ≤ (mag : Rat) := Rat.natCast_le_natCast.2 h
  rw [← P_nat] at h'
  rw [P_add]
  exact Rat.mul_le_mul_of_nonneg_right h' (Rat.le_of_lt (P_pos place))

/-- What is kept, as a number: within half a unit. -/
theorem kept_near (f : Format) (neg : Bool) (mag : Nat) (place : Int) :
    let last := lastOf f mag place
    let kept := Toward.even.cut neg (mag <<< (place - last).toNat) (last - place).toNat
    2 * ((kept : Rat) * P last) ≤ 2 * ((mag : Rat) * P place) + P last ∧ 2 * ((mag : Rat) * P place) ≤ 2 * ((kept : Rat) * P last) + P last := by
  intro last kept
  rcases Int.le_total last place with h | h
  · -- nothing is dropped
    have e0 : (last - place).toNat = 0 := by omega
    have hk : kept = mag * 2 ^ (place - last).toNat := by
      have := cut_exact neg (mag <<< (place - last).toNat) 0 (by simp)
      show Toward.even.cut neg (mag <<< (place - last).toNat) (last - place).toNat = _
      rw [e0]
      rw [Nat.pow_zero, Nat.mul_one] at this
      rw [this, Nat.shiftLeft_eq]
    have hv : (kept : Rat) * P last = (mag : Rat) * P place := by
      rw [hk, P_split h, Rat.natCast_mul]; grind
    have := P_pos last
    rw [hv]; grind
  · have e0 : (place - last).toNat = 0 := by omega
    have hs := cut_spec neg (mag <<< (place - last).toNat) (last - place).toNat
    rw [e0, Nat.shiftLeft_zero] at hs
    have hk : kept = Toward.even.cut neg mag (last - place).toNat := by
      show Toward.even.cut neg (mag <<< (place - last).toNat) (last - place).toNat = _
      rw [e0, Nat.shiftLeft_zero]
    rw [← hk] at hs
    have hp := P_split h
    generalize (last - place).toNat = d at *
    have h1 : 2 * ((kept : Rat) * ((2 ^ d : Nat) : Rat)) ≤ 2 * (mag : Rat) + ((2 ^ d : Nat) : Rat) := by
      have := Rat.natCast_le_natCast.2 hs.1
      simpa only [Rat.natCast_mul, Rat.natCast_add, Rat.natCast_ofNat] using this
    have h2 : 2 * (mag : Rat) ≤ 2 * ((kept : Rat) * ((2 ^ d : Nat) : Rat)) + ((2 ^ d : Nat) : Rat) := by
      have := Rat.natCast_le_natCast.2 hs.2
      simpa only [Rat.natCast_mul, Rat.natCast_add, Rat.natCast_ofNat] using this
    have pp := Rat.le_of_lt (P_pos place)
    have h1' := Rat.mul_le_mul_of_nonneg_right h1 pp
    have h2' := Rat.mul_le_mul_of_nonneg_right h2 pp
    rw [hp]
    grind

theorem kept_exact (f : Format) (neg : Bool) (mag : Nat) (place : Int) (n : Nat) (k : Int)
    (hq : (mag : Rat) * P place = (n : Rat) * P k) (hk : lastOf f mag place ≤ k) :
    let last := lastOf f mag place
    let kept := Toward.even.cut neg (mag <<< (place - last).toNat) (last - place).toNat
    (kept : Rat) * P last = (mag : Rat) * P place := by
  intro last kept
  rcases Int.le_total last place with h | h
  · have e0 : (last - place).toNat = 0 := by omega
    have hk : kept = mag * 2 ^ (place - last).toNat := by
      have := cut_exact neg (mag <<< (place - last).toNat) 0 (by simp)
      show Toward.even.cut neg (mag <<< (place - last).toNat) (last - place).toNat = _
      rw [e0]
      rw [Nat.pow_zero, Nat.mul_one] at this
      rw [this, Nat.shiftLeft_eq]
    rw [hk, P_split h, Rat.natCast_mul]; grind
  · have e0 : (place - last).toNat = 0 := by omega
    have hdvd : 2 ^ (last - place).toNat ∣ mag := by
      have hk' : place ≤ k := Int.le_trans h hk
      rw [P_split hk'] at hq
      have hm : (mag : Rat) = (n : Rat) * ((2 ^ (k - place).toNat : Nat) : Rat) := by
        have hp := P_pos place
        have : (mag : Rat) * P place = ((n : Rat) * ((2 ^ (k - place).toNat : Nat) : Rat)) * P place := by rw [hq]; grind
        exact Rat.le_antisymm (Rat.le_of_mul_le_mul_right (by rw [this]; exact Rat.le_refl) hp) (Rat.le_of_mul_le_mul_right (by rw [this]; exact Rat.le_refl) hp)
      have hm' : mag = n * 2 ^ (k - place).toNat := by
        rw [← Rat.natCast_mul] at hm
        exact Rat.natCast_inj.1 hm
      rw [hm']
      exact Nat.dvd_trans (Nat.pow_dvd_pow 2 (by omega)) (Nat.dvd_mul_left _ _)
    have hs := cut_exact neg mag (last - place).toNat hdvd
    have hk' : kept = Toward.even.cut neg mag (last - place).toNat := by
      show Toward.even.cut neg (mag <<< (place - last).toNat) (last - place).toNat = _
      rw [e0, Nat.shiftLeft_zero]
    rw [← hk'] at hs
    have hp := P_split h
    rw [hp]
    have : (mag : Rat) = (kept : Rat) * ((2 ^ (last - place).toNat : Nat) : Rat) := by
      rw [← Rat.natCast_mul, hs]
    rw [this]; grind

theorem lastOf_lt (f : Format) (mag : Nat) (place B : Int) (h0 : mag ≠ 0) (hB : (mag : Rat) * P place < P B) :
    lastOf f mag place ≤ max (B - 1 - f.fractionBits) f.leastPlace := by
  have h1 := P_lt_imp (lt_of_le_lt (mag_ge mag place h0) hB)
  unfold lastOf
  omega

theorem P_last_le (f : Format) (mag : Nat) (place : Int) (h0 : mag ≠ 0) :
    P (lastOf f mag place) ≤ (mag : Rat) * P place * P (-(f.fractionBits : Int)) + P f.leastPlace := by
  have h1 := mag_ge mag place h0
  have h2 := P_pos (-(f.fractionBits : Int))
  have h3 := P_pos f.leastPlace
  have h4 := Rat.mul_le_mul_of_nonneg_right h1 (Rat.le_of_lt h2)
  rw [← P_add] at h4
  have h5 : 0 ≤ (mag : Rat) * P place * P (-(f.fractionBits : Int)) :=
    Rat.mul_nonneg (Rat.mul_nonneg Rat.natCast_nonneg (Rat.le_of_lt (P_pos _))) (Rat.le_of_lt h2)
  unfold lastOf
  rcases Int.le_total (place + mag.log2 - f.fractionBits) f.leastPlace with h | h
  · rw [Int.max_eq_right h]; grind
  · rw [Int.max_eq_left h]
    have : place + (mag.log2 : Int) - f.fractionBits = mag.log2 + place + -(f.fractionBits : Int) := by omega
    rw [this]; grind

/-- What 'nearest' writes reads as a finite number near to what was asked. -/
theorem nearest_val (f : Format) (neg : Bool) (mag : Nat) (place B : Int) (h0 : mag ≠ 0)
    (hB : (mag : Rat) * P place < P B) (hB' : B - f.fractionBits - f.leastPlace + 2 ≤ 2 ^ f.exponentBits - 1) (he : 2 ≤ f.exponentBits) :
    ∃ m e, f.read (f.nearest neg mag place) = .number neg m e ∧
      2 * ((m : Rat) * P e) ≤ 2 * ((mag : Rat) * P place) + P (lastOf f mag place) ∧
      2 * ((mag : Rat) * P place) ≤ 2 * ((m : Rat) * P e) + P (lastOf f mag place) ∧
      (∀ (n : Nat) (k : Int), (mag : Rat) * P place = (n : Rat) * P k → lastOf f mag place ≤ k → (m : Rat) * P e = (mag : Rat) * P place) := by
  have hn := kept_near f neg mag place
  have hx := kept_exact f neg mag place
  have hl := lastOf_lt f mag place B h0 hB
  have hlt := mag_lt mag place
  have hge := mag_ge mag place h0
  have hlast : f.leastPlace ≤ lastOf f mag place := by unfold lastOf; omega
  have hlast2 : place + mag.log2 - f.fractionBits ≤ lastOf f mag place := by unfold lastOf; omega
  have hlast3 : f.leastPlace < lastOf f mag place → lastOf f mag place = place + mag.log2 - f.fractionBits := by unfold lastOf; omega
  have hwd : f.nearest neg mag place = f.word neg (min ((lastOf f mag place - f.leastPlace).toNat * f.binade + Toward.even.cut neg (mag <<< (place - lastOf f mag place).toNat) (lastOf f mag place - place).toNat) f.infRung) := by
    unfold Format.nearest lastOf
    rw [if_neg h0]
  rw [hwd]
  simp only at hn hx
  generalize lastOf f mag place = last at *
  generalize Toward.even.cut neg (mag <<< (place - last).toNat) (last - place).toNat = kept at *
  have hp := P_pos last
  -- kept is at most twice the binade
  have hk2 : kept ≤ 2 * f.binade := by
    apply Nat.le_of_not_lt
    intro hgt
    have hc : ((2 * f.binade + 1 : Nat) : Rat) ≤ (kept : Rat) := Rat.natCast_le_natCast.2 hgt
    have hc' := Rat.mul_le_mul_of_nonneg_right hc (Rat.le_of_lt hp)
    have hq : (mag : Rat) * P place < P (last + (f.fractionBits : Int) + 1) :=
      lt_of_lt_le hlt (P_mono (by omega))
    rw [P_add, P_add, P_nat] at hq
    have e1 : P 1 = 2 := rfl
    rw [e1] at hq
    have e2 : ((2 * f.binade + 1 : Nat) : Rat) = 2 * ((2 ^ f.fractionBits : Nat) : Rat) + 1 := by
      unfold Format.binade; simp only [Rat.natCast_mul, Rat.natCast_add, Rat.natCast_ofNat]
    rw [e2] at hc'
    grind
  have hk1 : (last - f.leastPlace).toNat = 0 ∨ f.binade ≤ kept := by
    rcases Int.lt_or_eq_of_le hlast with h | h
    · right
      have h3 := hlast3 h
      apply Nat.le_of_not_lt
      intro hgt
      have hc : ((kept + 1 : Nat) : Rat) ≤ (f.binade : Rat) := Rat.natCast_le_natCast.2 hgt
      have hc' := Rat.mul_le_mul_of_nonneg_right hc (Rat.le_of_lt hp)
      have hq : P (last + (f.fractionBits : Int)) ≤ (mag : Rat) * P place := by
        refine Rat.le_trans (P_mono (by omega)) hge
      rw [P_add, P_nat] at hq
      have e2 : ((kept + 1 : Nat) : Rat) = (kept : Rat) + 1 := by simp only [Rat.natCast_add]; rfl
      have e3 : (f.binade : Rat) = ((2 ^ f.fractionBits : Nat) : Rat) := rfl
      rw [e2, e3] at hc'
      grind
    · left; omega
  have h4 : (4 : Int) ≤ 2 ^ f.exponentBits := by
    have : 2 ^ 2 ≤ 2 ^ f.exponentBits := Nat.pow_le_pow_right (by decide) he
    exact_mod_cast this
  have hr : (last - f.leastPlace).toNat * f.binade + kept < f.infRung := by
    have hb := binade_pos f
    have hL : (last - f.leastPlace).toNat + 2 + 1 ≤ 2 ^ f.exponentBits - 1 := by
      have hc : ((2 ^ f.exponentBits : Nat) : Int) = 2 ^ f.exponentBits := by simp
      omega
    unfold Format.infRung
    have := Nat.mul_le_mul_right f.binade hL
    rw [Nat.add_mul, Nat.add_mul] at this
    omega
  rw [Nat.min_eq_left (by omega)]
  obtain ⟨m, e, h1, h2⟩ := read_rung f neg _ kept hk2 hk1 hr
  have hpl : f.leastPlace + ((last - f.leastPlace).toNat : Int) = last := by omega
  rw [hpl] at h2
  exact ⟨m, e, h1, by rw [h2]; exact hn.1, by rw [h2]; exact hn.2, fun n k hq hk => by rw [h2]; exact hx n k hq hk⟩

/-- The format has all numbers below 2 ^ B. -/
def Roomy (f : Format) (B : Int) : Prop := B - f.fractionBits - f.leastPlace + 2 ≤ 2 ^ f.exponentBits - 1 ∧ 2 ≤ f.exponentBits

theorem roomy32 : Roomy single 127 := by unfold Roomy; exact ⟨by decide, by decide⟩
theorem roomy64 : Roomy double 1023 := by unfold Roomy; exact ⟨by decide, by decide⟩

/-- A number that the format has. -/
def Has (f : Format) (q : Rat) : Prop := ∃ (n k : Int), q = (n : Rat) * P k ∧ n.natAbs < 2 ^ (f.fractionBits + 1) ∧ f.leastPlace ≤ k

/-- z is q rounded, where q is at most C in size. -/
def Near (f : Format) (C z q : Rat) : Prop :=
  z ≤ q + (C * P (-(f.fractionBits : Int) - 1) + P (f.leastPlace - 1)) ∧ q ≤ z + (C * P (-(f.fractionBits : Int) - 1) + P (f.leastPlace - 1)) ∧
  (Has f q → z = q) ∧ (0 ≤ q → 0 ≤ z)

theorem P_half (e : Int) : P e = 2 * P (e - 1) := by
  have : P e = P ((e - 1) + 1) := by congr 1; omega
  rw [this, P_add]
  have e1 : P 1 = 2 := rfl
  rw [e1]; grind

theorem sg_abs (s : Bool) (x : Rat) : sg s * x = x ∨ sg s * x = -x := by
  unfold sg; cases s <;> simp <;> grind

theorem int_cast_abs (n : Int) : (n : Rat) = (n.natAbs : Rat) ∨ (n : Rat) = -(n.natAbs : Rat) := by
  rcases Int.natAbs_eq n with h | h
  · left; conv => lhs; rw [h, Rat.intCast_natCast]
  · right; conv => lhs; rw [h, Rat.intCast_neg, Rat.intCast_natCast]

theorem write_val (f : Format) {B : Int} (hf : Roomy f B) (s : Bool) (m : Nat) (e : Int) (q C : Rat) (hq : q = sg s * (m : Rat) * P e)
    (h1 : q ≤ C) (h2 : -C ≤ q) (hC : C < P B) :
    ∃ z, Val f (f.write (.number s m e)) z ∧ Near f C z q ∧ (f.read (f.write (.number s m e))).isInfinity = false := by
  have hC0 : 0 ≤ C := by grind
  have hE : 0 ≤ C * P (-(f.fractionBits : Int) - 1) + P (f.leastPlace - 1) := by
    have := Rat.mul_nonneg hC0 (Rat.le_of_lt (P_pos (-(f.fractionBits : Int) - 1)))
    have := P_pos (f.leastPlace - 1)
    grind
  by_cases h0 : m = 0
  · subst h0
    have hq0 : q = 0 := by rw [hq]; simp
    have hw : f.write (.number s 0 e) = f.word s 0 := by show f.nearest s 0 e = _; unfold Format.nearest; rw [if_pos rfl]
    have hi : (0 : Nat) * f.binade + 0 < f.infRung := by
      unfold Format.infRung
      have h4 := Nat.pow_le_pow_right (n := 2) (by decide) hf.2
      have := binade_pos f
      simp only [Nat.zero_mul, Nat.add_zero]
      exact Nat.mul_pos (by omega) this
    obtain ⟨m', e', hr, hv⟩ := read_rung f s 0 0 (Nat.zero_le _) (.inl rfl) hi
    rw [Nat.zero_mul, Nat.zero_add] at hr
    refine ⟨0, ⟨s, m', e', by rw [hw]; exact hr, ?_⟩, ⟨by grind, by grind, fun _ => hq0.symm, fun _ => Rat.le_refl⟩, by rw [hw, hr]; rfl⟩
    rw [Rat.mul_assoc, hv]; simp
  · have hM : (m : Rat) * P e ≤ C := by
      rcases sg_abs s ((m : Rat) * P e) with h | h <;> rw [← Rat.mul_assoc, ← hq] at h <;> grind
    obtain ⟨m', e', hr, ha, hb, hx⟩ := nearest_val f s m e B h0 (lt_of_le_lt hM hC) hf.1 hf.2
    have hpl := P_last_le f m e h0
    have hlt0 := lastOf_lt f m e
    have hpos : 0 ≤ (m : Rat) * P e := Rat.mul_nonneg Rat.natCast_nonneg (Rat.le_of_lt (P_pos e))
    have hw : f.write (.number s m e) = f.nearest s m e := rfl
    have hhalf : P (lastOf f m e) ≤ 2 * (C * P (-(f.fractionBits : Int) - 1) + P (f.leastPlace - 1)) := by
      rw [P_half (-(f.fractionBits : Int)), P_half f.leastPlace] at hpl
      have := Rat.mul_le_mul_of_nonneg_right hM (Rat.le_of_lt (P_pos (-(f.fractionBits : Int) - 1)))
      grind
    refine ⟨sg s * (m' : Rat) * P e', ⟨s, m', e', by rw [hw]; exact hr, rfl⟩, ⟨?_, ?_, ?_, ?_⟩, by rw [hw, hr]; rfl⟩
    · rw [hq, Rat.mul_assoc, Rat.mul_assoc]
      unfold sg; cases s <;> simp <;> grind
    · rw [hq, Rat.mul_assoc, Rat.mul_assoc]
      unfold sg; cases s <;> simp <;> grind
    · rintro ⟨n, k, hnk, hn, hk⟩
      have habs : (m : Rat) * P e = (n.natAbs : Rat) * P k := by
        have hp := Rat.mul_nonneg (Rat.natCast_nonneg (a := n.natAbs)) (Rat.le_of_lt (P_pos k))
        rcases sg_abs s ((m : Rat) * P e) with h | h <;> rw [← Rat.mul_assoc, ← hq] at h <;> rcases int_cast_abs n with h' | h' <;> rw [h'] at hnk <;> grind
      have hlast : lastOf f m e ≤ k := by
        have hn' : ((n.natAbs : Nat) : Rat) < ((2 ^ (f.fractionBits + 1) : Nat) : Rat) := Rat.natCast_lt_natCast.2 hn
        rw [← P_nat] at hn'
        have hB2 : (m : Rat) * P e < P (((f.fractionBits + 1 : Nat) : Int) + k) := by
          rw [habs, P_add]
          exact Rat.mul_lt_mul_of_pos_right hn' (P_pos k)
        have := hlt0 _ h0 hB2
        omega
      have := hx n.natAbs k habs hlast
      rw [hq, Rat.mul_assoc, Rat.mul_assoc, this]
    · intro hq0
      have hm : (0 : Rat) < (m : Rat) * P e := Rat.mul_pos (Rat.natCast_pos.2 (by omega)) (P_pos e)
      have hm' : (0 : Rat) ≤ (m' : Rat) * P e' := Rat.mul_nonneg Rat.natCast_nonneg (Rat.le_of_lt (P_pos e'))
      rw [hq, Rat.mul_assoc] at hq0
      rw [Rat.mul_assoc]
      cases s
      · simp [sg]; grind
      · exfalso; simp [sg] at hq0; grind

theorem Val.pair {f : Format} {x : Nat} {q : Rat} (h : Val f x q) : ∃ s m e, f.read x = .number s m e ∧ q = sg s * (m : Rat) * P e := h

theorem signed_val (s : Bool) (m up : Nat) : ((signed s m up : Int) : Rat) = sg s * (m : Rat) * ((2 ^ up : Nat) : Rat) := by
  unfold signed sg
  rw [Nat.shiftLeft_eq]
  cases s
  · simp only [Bool.false_eq_true, if_false]
    rw [Rat.intCast_natCast, Rat.natCast_mul]; grind
  · simp only [if_true]
    rw [Rat.intCast_neg, Rat.intCast_natCast, Rat.natCast_mul]; grind

theorem sign_abs (t : Int) (b : Bool) : sg (if t = 0 then b else decide (t < 0)) * (t.natAbs : Rat) = (t : Rat) := by
  by_cases h0 : t = 0
  · subst h0; simp
  · rw [if_neg h0]
    rcases int_cast_abs t with h | h
    · by_cases hn : t < 0
      · exfalso
        have h1 : (t : Rat) < 0 := by have := Rat.intCast_lt_intCast.2 hn; simpa using this
        have h2 : (0 : Rat) ≤ (t.natAbs : Rat) := Rat.natCast_nonneg
        grind
      · rw [decide_eq_false hn, h]; unfold sg; simp
    · by_cases hn : t < 0
      · rw [decide_eq_true hn, h]; unfold sg; simp; grind
      · exfalso
        have h1 : (0 : Rat) ≤ (t : Rat) := by have := Rat.intCast_le_intCast.2 (Int.le_of_not_gt hn); simpa using this
        have h2 : (0 : Rat) ≤ (t.natAbs : Rat) := Rat.natCast_nonneg
        have h3 : (t : Rat) = 0 := by grind
        exact h0 (Rat.intCast_eq_zero_iff.1 h3)

theorem sg_not (s : Bool) : sg (!s) = -sg s := by cases s <;> decide +kernel
theorem sg_xor (s t : Bool) : sg (s ^^ t) = sg s * sg t := by cases s <;> cases t <;> decide +kernel

theorem sum_val (s t : Bool) (m n : Nat) (i j : Int) :
    ∃ b k e, Datum.sum (.number s m i) (.number t n j) = some (.number b k e) ∧ sg b * (k : Rat) * P e = sg s * (m : Rat) * P i + sg t * (n : Rat) * P j := by
  refine ⟨_, _, _, rfl, ?_⟩
  rw [sign_abs, Rat.intCast_add, signed_val, signed_val]
  have h1 : P i = ((2 ^ (i - min i j).toNat : Nat) : Rat) * P (min i j) := P_split (Int.min_le_left _ _)
  have h2 : P j = ((2 ^ (j - min i j).toNat : Nat) : Rat) * P (min i j) := P_split (Int.min_le_right _ _)
  generalize P (min i j) = pm at *
  rw [h1, h2]; grind

/-- The sum of two numbers. -/
theorem Val.add {f : Format} {B : Int} (hf : Roomy f B) {x y : Nat} {p q : Rat} (hx : Val f x p) (hy : Val f y q) (C : Rat) (h1 : p + q ≤ C) (h2 : -C ≤ p + q) (hC : C < P B) :
    ∃ r, f.add x y = some r ∧ ∃ z, Val f r z ∧ Near f C z (p + q) := by
  obtain ⟨s, m, i, hx1, hx2⟩ := hx
  obtain ⟨t, n, j, hy1, hy2⟩ := hy
  obtain ⟨b, k, e, hs, hv⟩ := sum_val s t m n i j
  obtain ⟨z, hz1, hz2, _⟩ := write_val f hf b k e (p + q) C (by rw [hv, hx2, hy2]) h1 h2 hC
  exact ⟨_, by unfold Format.add; rw [hx1, hy1, hs]; rfl, z, hz1, hz2⟩

theorem Val.sub {f : Format} {B : Int} (hf : Roomy f B) {x y : Nat} {p q : Rat} (hx : Val f x p) (hy : Val f y q) (C : Rat) (h1 : p - q ≤ C) (h2 : -C ≤ p - q) (hC : C < P B) :
    ∃ r, f.sub x y = some r ∧ ∃ z, Val f r z ∧ Near f C z (p - q) := by
  obtain ⟨s, m, i, hx1, hx2⟩ := hx
  obtain ⟨t, n, j, hy1, hy2⟩ := hy
  obtain ⟨b, k, e, hs, hv⟩ := sum_val s (!t) m n i j
  obtain ⟨z, hz1, hz2, _⟩ := write_val f hf b k e (p - q) C (by rw [hv, hx2, hy2, sg_not]; grind) h1 h2 hC
  exact ⟨_, by unfold Format.sub; rw [hx1, hy1]; show Option.map f.write (Datum.sum _ (.number (!t) n j)) = _; rw [hs]; rfl, z, hz1, hz2⟩

theorem Val.mul {f : Format} {B : Int} (hf : Roomy f B) {x y : Nat} {p q : Rat} (hx : Val f x p) (hy : Val f y q) (C : Rat) (h1 : p * q ≤ C) (h2 : -C ≤ p * q) (hC : C < P B) :
    ∃ r, f.mul x y = some r ∧ ∃ z, Val f r z ∧ Near f C z (p * q) := by
  obtain ⟨s, m, i, hx1, hx2⟩ := hx
  obtain ⟨t, n, j, hy1, hy2⟩ := hy
  obtain ⟨z, hz1, hz2, _⟩ := write_val f hf (s ^^ t) (m * n) (i + j) (p * q) C (by rw [hx2, hy2, sg_xor, P_add, Rat.natCast_mul]; grind) h1 h2 hC
  exact ⟨_, by unfold Format.mul; rw [hx1, hy1]; rfl, z, hz1, hz2⟩

theorem cmp_cast (a b : Int) (c : Rat) (hc : 0 < c) :
    compare a b = if (a : Rat) * c < (b : Rat) * c then .lt else if (a : Rat) * c = (b : Rat) * c then .eq else .gt := by
  have h1 : ((a : Rat) * c < (b : Rat) * c) ↔ a < b := by rw [Rat.mul_lt_mul_right hc, Rat.intCast_lt_intCast]
  have h2 : ((a : Rat) * c = (b : Rat) * c) ↔ a = b := by
    constructor
    · intro h
      have e : (a : Rat) = (b : Rat) := Rat.le_antisymm (Rat.le_of_mul_le_mul_right (by rw [h]; exact Rat.le_refl) hc) (Rat.le_of_mul_le_mul_right (by rw [h]; exact Rat.le_refl) hc)
      exact Rat.intCast_inj.1 e
    · intro h; rw [h]
  rw [show compare a b = compareOfLessAndEq a b from rfl]
  unfold compareOfLessAndEq
  by_cases ha : a < b
  · rw [if_pos ha, if_pos (h1.2 ha)]
  · rw [if_neg ha, if_neg (fun h => ha (h1.1 h))]
    by_cases hb : a = b
    · rw [if_pos hb, if_pos (h2.2 hb)]
    · rw [if_neg hb, if_neg (fun h => hb (h2.1 h))]

/-- How two words stand to each other is how their numbers do. -/
theorem Val.order {f : Format} {x y : Nat} {p q : Rat} (hx : Val f x p) (hy : Val f y q) :
    f.order x y = some (if p < q then .lt else if p = q then .eq else .gt) := by
  obtain ⟨s, m, i, hx1, hx2⟩ := hx
  obtain ⟨t, n, j, hy1, hy2⟩ := hy
  unfold Format.order
  rw [hx1, hy1]
  show some (compare (signed s m (i - min i j).toNat) (signed t n (j - min i j).toNat)) = _
  rw [cmp_cast _ _ (P (min i j)) (P_pos _), signed_val, signed_val]
  have h1 : P i = ((2 ^ (i - min i j).toNat : Nat) : Rat) * P (min i j) := P_split (Int.min_le_left _ _)
  have h2 : P j = ((2 ^ (j - min i j).toNat : Nat) : Rat) * P (min i j) := P_split (Int.min_le_right _ _)
  have e1 : sg s * (m : Rat) * ((2 ^ (i - min i j).toNat : Nat) : Rat) * P (min i j) = p := by rw [hx2, h1]; grind
  have e2 : sg t * (n : Rat) * ((2 ^ (j - min i j).toNat : Nat) : Rat) * P (min i j) = q := by rw [hy2, h2]; grind
  rw [e1, e2]

theorem read_bounds {f : Format} {x : Nat} {s : Bool} {m : Nat} {e : Int} (h : f.read x = .number s m e) :
    m < 2 ^ (f.fractionBits + 1) ∧ f.leastPlace ≤ e ∧ e < f.leastPlace + 2 ^ f.exponentBits := by
  have hb := binade_pos f
  have hbin : f.binade = 2 ^ f.fractionBits := rfl
  have hp : (0 : Int) < 2 ^ f.exponentBits := Int.pow_pos (by decide)
  unfold Format.read at h
  simp only at h
  split at h
  · cases h
    refine ⟨?_, Int.le_refl _, by omega⟩
    rw [Nat.pow_succ]; omega
  · split at h
    · rename_i h1 h2
      cases h
      refine ⟨?_, by omega, ?_⟩
      · have := Nat.mod_lt (x % f.signWeight) hb
        rw [Nat.pow_succ]; omega
      · unfold Format.infRung at h2
        have h3 : x % f.signWeight / f.binade < 2 ^ f.exponentBits - 1 := Nat.div_lt_of_lt_mul (by rw [Nat.mul_comm]; exact h2)
        have hc : ((2 ^ f.exponentBits : Nat) : Int) = 2 ^ f.exponentBits := by simp
        omega
    · split at h <;> cases h

theorem Val.has {f : Format} {x : Nat} {q : Rat} (h : Val f x q) : Has f q := by
  obtain ⟨s, m, e, h1, h2⟩ := h
  obtain ⟨a, b, _⟩ := read_bounds h1
  unfold sg at h2
  cases s
  · refine ⟨m, e, ?_, by simpa using a, b⟩
    rw [h2, Rat.intCast_natCast]; simp
  · refine ⟨-(m : Int), e, ?_, by simpa using a, b⟩
    rw [h2, Rat.intCast_neg, Rat.intCast_natCast]; simp; grind

theorem Val.lt {f : Format} {x : Nat} {q : Rat} (h : Val f x q) :
    q < P ((f.fractionBits + 1 : Nat) + (f.leastPlace + 2 ^ f.exponentBits)) ∧ -P ((f.fractionBits + 1 : Nat) + (f.leastPlace + 2 ^ f.exponentBits)) < q := by
  obtain ⟨s, m, e, h1, h2⟩ := h
  obtain ⟨a, b, c⟩ := read_bounds h1
  have hm : (m : Rat) < P ((f.fractionBits + 1 : Nat)) := by rw [P_nat]; exact Rat.natCast_lt_natCast.2 a
  have h3 : (m : Rat) * P e < P ((f.fractionBits + 1 : Nat) + (f.leastPlace + 2 ^ f.exponentBits)) := by
    rw [P_add]
    have h4 := Rat.mul_lt_mul_of_pos_right hm (P_pos e)
    have h5 := Rat.mul_le_mul_of_nonneg_left (P_mono (Int.le_of_lt c)) (Rat.le_of_lt (P_pos ((f.fractionBits + 1 : Nat))))
    grind
  have h6 : 0 ≤ (m : Rat) * P e := Rat.mul_nonneg Rat.natCast_nonneg (Rat.le_of_lt (P_pos e))
  rcases sg_abs s ((m : Rat) * P e) with h | h <;> rw [← Rat.mul_assoc, ← h2] at h <;> grind

theorem has_wider {q : Rat} (h : Has single q) : Has double q := by
  obtain ⟨n, k, h1, h2, h3⟩ := h
  refine ⟨n, k, h1, Nat.lt_trans h2 (by decide), ?_⟩
  have e1 : single.leastPlace = -149 := by decide
  have e2 : double.leastPlace = -1074 := by decide
  omega

theorem Val.single_lt {x : Nat} {q : Rat} (h : Val single x q) : q < P 1000 ∧ -P 1000 < q := by
  have e1 : single.leastPlace = -149 := by decide
  obtain ⟨a, b⟩ := h.lt
  have : P ((single.fractionBits + 1 : Nat) + (single.leastPlace + 2 ^ single.exponentBits)) ≤ P 1000 := P_mono (by rw [e1]; decide)
  grind

/-- float64(x): the same number. -/
theorem Val.wide {x : Nat} {q : Rat} (h : Val single x q) : ∃ r, floatToFloatBits .f32 x .f64 = some r ∧ Val double r q := by
  have hh := has_wider h.has
  obtain ⟨l1, l2⟩ := h.single_lt
  obtain ⟨s, m, e, h1, h2⟩ := h
  obtain ⟨z, hz1, hz2, hz3⟩ := write_val double roomy64 s m e q (P 1000) h2 (by grind) (by grind) (P_lt (by decide))
  have hz : z = q := hz2.2.2.1 hh
  subst hz
  refine ⟨double.write (.number s m e), ?_, hz1⟩
  unfold floatToFloatBits
  rw [if_neg (by decide)]
  have hd : FloatKind.decode .f32 x = .number s m e := h1
  rw [hd]
  have hi : (FloatKind.decode .f64 (FloatKind.encode .f64 (.number s m e))).isInfinity = false := hz3
  simp only [hi]; rfl

/-- float32(x): the number rounded. -/
theorem Val.narrow {x : Nat} {q : Rat} (h : Val double x q) (C : Rat) (h1 : q ≤ C) (h2 : -C ≤ q) (hC : C < P 127) :
    ∃ r, floatToFloatBits .f64 x .f32 = some r ∧ ∃ z, Val single r z ∧ Near single C z q := by
  obtain ⟨s, m, e, h3, h4⟩ := h
  obtain ⟨z, hz1, hz2, hz3⟩ := write_val single roomy32 s m e q C h4 h1 h2 hC
  refine ⟨single.write (.number s m e), ?_, z, hz1, hz2⟩
  unfold floatToFloatBits
  rw [if_neg (by decide)]
  have hd : FloatKind.decode .f64 x = .number s m e := h3
  rw [hd]
  have hi : (FloatKind.decode .f32 (FloatKind.encode .f32 (.number s m e))).isInfinity = false := hz3
  simp only [hi]; rfl

theorem xor_top (x k : Nat) : (x ^^^ 2 ^ k) / 2 ^ k % 2 = 1 - x / 2 ^ k % 2 ∧ (x ^^^ 2 ^ k) % 2 ^ k = x % 2 ^ k := by
  constructor
  · rw [Nat.xor_div_two_pow, Nat.div_self (Nat.two_pow_pos _)]
    have h := Nat.xor_mod_two_pow (a := x / 2 ^ k) (b := 1) (n := 1)
    rw [Nat.pow_one] at h
    rw [h]
    have := Nat.mod_lt (x / 2 ^ k) (show 0 < 2 by decide)
    rcases (show x / 2 ^ k % 2 = 0 ∨ x / 2 ^ k % 2 = 1 by omega) with e | e <;> rw [e] <;> rfl
  · rw [Nat.xor_mod_two_pow, Nat.mod_self, Nat.xor_zero]

/-- -x. -/
theorem Val.neg {k : FloatKind} {x : Nat} {q : Rat} (h : Val k.format x q) : Val k.format (Op.negFloat k x) (-q) := by
  obtain ⟨s, m, e, h1, h2⟩ := h
  refine ⟨!s, m, e, ?_, by rw [h2, sg_not]; grind⟩
  obtain ⟨a, b⟩ := xor_top x (k.format.exponentBits + k.format.fractionBits)
  unfold Op.negFloat
  unfold Format.read Format.signWeight at *
  simp only [a, b] at *
  have h3 : ∀ n : Nat, n < 2 → (1 - n == 1) = !(n == 1) := by
    intro n hn
    rcases (show n = 0 ∨ n = 1 by omega) with e | e <;> subst e <;> rfl
  rw [h3 _ (Nat.mod_lt _ (by decide))]
  split at h1
  · rw [if_pos (by assumption)]; cases h1; rfl
  · rw [if_neg (by assumption)]
    split at h1
    · rw [if_pos (by assumption)]; cases h1; rfl
    · split at h1 <;> cases h1

/-- A quotient as 'Datum.quotient' writes it: within half a unit of what is told, and told exactly if it is a whole number of units. -/
theorem quot_nat (dividend n v : Nat) (hn : n ≠ 0) (hv : v = 2 * (dividend / n) + (dividend % n != 0).toNat) :
    v * n ≤ 2 * dividend + n ∧ 2 * dividend ≤ v * n + n ∧ (n ∣ dividend → v * n = 2 * dividend) := by
  have h1 := Nat.div_add_mod dividend n
  have h2 := Nat.mod_lt dividend (show 0 < n by omega)
  generalize dividend / n = d at *
  cases hr : (dividend % n != 0)
  · have h0 : dividend % n = 0 := by simpa using hr
    rw [hr] at hv
    rw [hv, Nat.add_mul, Nat.mul_assoc, Nat.mul_comm d n, Bool.toNat_false, Nat.zero_mul]
    omega
  · have h0 : dividend % n ≠ 0 := by simpa using hr
    rw [hr] at hv
    rw [hv, Nat.add_mul, Nat.mul_assoc, Nat.mul_comm d n, Bool.toNat_true]
    refine ⟨by omega, by omega, fun hdv => absurd (Nat.mod_eq_zero_of_dvd hdv) h0⟩

theorem P_sub (a b : Int) : P (a - b) * P b = P a := by rw [← P_add]; congr 1; omega

theorem sg_sq (s : Bool) : sg s * sg s = 1 := by cases s <;> decide +kernel

/-- The quotient of two numbers. -/
theorem Val.div {f : Format} {B : Int} (hf : Roomy f B) {x y : Nat} {p q w : Rat} (hx : Val f x p) (hy : Val f y q) (hq : q ≠ 0) (hw : w * q = p) (C : Rat)
    (h1 : w ≤ C) (h2 : -C ≤ w) (hC : 2 * C < P B) :
    ∃ r, f.div x y = some r ∧ ∃ z, Val f r z ∧ Near f (2 * C) z w := by
  obtain ⟨s, m, i, hx1, hx2⟩ := hx
  obtain ⟨t, n, j, hy1, hy2⟩ := hy
  have hC0 : 0 ≤ C := by grind
  have hn : n ≠ 0 := by rintro rfl; exact hq (by rw [hy2]; simp)
  have hnp : (0 : Rat) < (n : Rat) := Rat.natCast_pos.2 (by omega)
  -- the exact quotient's size
  have hwn : w * ((n : Rat) * P j) = (sg s * sg t) * ((m : Rat) * P i) := by
    have e1 : w * (sg t * (n : Rat) * P j) = sg s * (m : Rat) * P i := by rw [← hy2, hw, hx2]
    have e2 : sg t * (w * (sg t * (n : Rat) * P j)) = sg t * (sg s * (m : Rat) * P i) := by rw [e1]
    have e3 := sg_sq t
    have e4 : sg t * (w * (sg t * (n : Rat) * P j)) = (sg t * sg t) * (w * ((n : Rat) * P j)) := by grind
    rw [e4, e3] at e2
    grind
  obtain ⟨more, hmore⟩ : ∃ k, k = f.fractionBits + 2 + n.log2 - m.log2 := ⟨_, rfl⟩
  obtain ⟨dividend, hdiv⟩ : ∃ k, k = m <<< more := ⟨_, rfl⟩
  obtain ⟨v, hv⟩ : ∃ k, k = 2 * (dividend / n) + (dividend % n != 0).toNat := ⟨_, rfl⟩
  have hdef : f.div x y = some (f.write (.number (s ^^ t) v (i - j - more - 1))) := by
    unfold Format.div
    rw [hx1, hy1]
    show Option.map f.write (if n = 0 then _ else _) = _
    rw [if_neg hn, hv, hdiv, hmore]; rfl
  obtain ⟨hv1, hv2, hv3⟩ := quot_nat dividend n v hn hv
  have hdd : dividend = m * 2 ^ more := by rw [hdiv]; exact Nat.shiftLeft_eq _ _
  -- as numbers
  have c1 : (v : Rat) * (n : Rat) ≤ 2 * ((m : Rat) * P more) + (n : Rat) := by
    have := Rat.natCast_le_natCast.2 hv1
    rw [hdd] at this
    rw [P_nat]
    simpa only [Rat.natCast_mul, Rat.natCast_add, Rat.natCast_ofNat] using this
  have c2 : 2 * ((m : Rat) * P more) ≤ (v : Rat) * (n : Rat) + (n : Rat) := by
    have := Rat.natCast_le_natCast.2 hv2
    rw [hdd] at this
    rw [P_nat]
    simpa only [Rat.natCast_mul, Rat.natCast_add, Rat.natCast_ofNat] using this
  have c3 : n ∣ dividend → (v : Rat) * (n : Rat) = 2 * ((m : Rat) * P more) := by
    intro hdv
    have : ((v * n : Nat) : Rat) = ((2 * dividend : Nat) : Rat) := by rw [hv3 hdv]
    rw [hdd] at this
    rw [P_nat]
    simpa only [Rat.natCast_mul, Rat.natCast_add, Rat.natCast_ofNat] using this
  -- the unit
  have hPp := P_pos (i - j - more - 1)
  have hu2 : P (i - j - more) = 2 * P (i - j - more - 1) := P_half _
  generalize hu : P (i - j - more - 1) = u at *
  -- P i = P more * 2 u * P j
  have hPi : P i = P more * (2 * u) * P j := by
    rw [← hu2, ← P_add, ← P_add]; congr 1; omega
  -- |w| n = 2 u m P more
  have hwm : w * (n : Rat) = (sg s * sg t) * (2 * u * ((m : Rat) * P more)) := by
    have hPj := P_pos j
    rw [hPi] at hwn
    have e : (w * (n : Rat)) * P j = ((sg s * sg t) * (2 * u * ((m : Rat) * P more))) * P j := by grind
    exact Rat.le_antisymm (Rat.le_of_mul_le_mul_right (by rw [e]; exact Rat.le_refl) hPj) (Rat.le_of_mul_le_mul_right (by rw [e]; exact Rat.le_refl) hPj)
  -- z0: what is written
  obtain ⟨z0, hz0d⟩ : ∃ k, k = sg (s ^^ t) * (v : Rat) * u := ⟨_, rfl⟩
  have hst : sg (s ^^ t) = sg s * sg t := sg_xor s t
  have hs1 : sg s * sg t = 1 ∨ sg s * sg t = -1 := by cases s <;> cases t <;> simp [sg] <;> grind
  have d1 : z0 ≤ w + u ∧ w ≤ z0 + u := by
    have b1 := Rat.mul_le_mul_of_nonneg_right c1 (Rat.le_of_lt hPp)
    have b2 := Rat.mul_le_mul_of_nonneg_right c2 (Rat.le_of_lt hPp)
    have k1 : ∀ a b : Rat, a * (n : Rat) ≤ b * (n : Rat) → a ≤ b := fun a b h => Rat.le_of_mul_le_mul_right h hnp
    constructor
    · apply k1
      rw [hz0d, Rat.add_mul, hwm, hst]
      rcases hs1 with h | h <;> rw [h] <;> grind
    · apply k1
      rw [hz0d, hwm, hst]
      rcases hs1 with h | h <;> rw [h] <;> grind
  have d2 : n ∣ dividend → z0 = w := by
    intro hdv
    have b := c3 hdv
    have e : z0 * (n : Rat) = w * (n : Rat) := by
      rw [hz0d, hwm, hst]
      have : sg s * sg t * (v : Rat) * u * (n : Rat) = sg s * sg t * u * ((v : Rat) * (n : Rat)) := by grind
      rw [this, b]; grind
    exact Rat.le_antisymm (Rat.le_of_mul_le_mul_right (by rw [e]; exact Rat.le_refl) hnp) (Rat.le_of_mul_le_mul_right (by rw [e]; exact Rat.le_refl) hnp)
  by_cases hm : m = 0
  · have hw0 : w = 0 := by
      have : w * (n : Rat) = 0 := by rw [hwm, hm]; simp
      rcases Rat.mul_eq_zero.1 this with h | h
      · exact h
      · grind
    have hz0 : z0 = w := d2 (by rw [hdd, hm]; simp)
    obtain ⟨z, hz1, hz2, _⟩ := write_val f hf (s ^^ t) v (i - j - more - 1) z0 (2 * C) (by rw [hu, hz0d]) (by grind) (by grind) hC
    exact ⟨_, hdef, z, hz1, by rw [← hz0]; exact hz2⟩
  · -- the quotient has many digits
    have hmp : P (f.fractionBits + 1) * u * 2 < (sg s * sg t) * w := by
      have a1 : 2 ^ m.log2 ≤ m := Nat.log2_self_le hm
      have a2 : n < 2 ^ (n.log2 + 1) := Nat.lt_log2_self
      have a3 : f.fractionBits + 2 + n.log2 ≤ m.log2 + more := by omega
      have a4 : n * 2 ^ (f.fractionBits + 1) < m * 2 ^ more := by
        have : 2 ^ (f.fractionBits + 2 + n.log2) ≤ 2 ^ (m.log2 + more) := Nat.pow_le_pow_right (by decide) a3
        rw [Nat.pow_add 2 m.log2] at this
        have t1 : 2 ^ m.log2 * 2 ^ more ≤ m * 2 ^ more := Nat.mul_le_mul_right _ a1
        have t2 : n * 2 ^ (f.fractionBits + 1) < 2 ^ (n.log2 + 1) * 2 ^ (f.fractionBits + 1) := Nat.mul_lt_mul_of_pos_right a2 (Nat.two_pow_pos _)
        rw [← Nat.pow_add, show n.log2 + 1 + (f.fractionBits + 1) = f.fractionBits + 2 + n.log2 by omega] at t2
        omega
      have a5 : (n : Rat) * P ((f.fractionBits + 1 : Nat) : Int) < (m : Rat) * P more := by
        rw [P_nat, P_nat, ← Rat.natCast_mul, ← Rat.natCast_mul]
        exact Rat.natCast_lt_natCast.2 a4
      have a6 : ((f.fractionBits + 1 : Nat) : Int) = (f.fractionBits : Int) + 1 := by omega
      rw [a6] at a5
      refine Rat.lt_of_mul_lt_mul_right (c := (n : Rat)) ?_ (Rat.le_of_lt hnp)
      have a7 : sg s * sg t * w * (n : Rat) = 2 * u * ((m : Rat) * P more) := by
        have : sg s * sg t * w * (n : Rat) = sg s * sg t * (w * (n : Rat)) := by grind
        rw [this, hwm]
        rcases hs1 with h | h <;> rw [h] <;> grind
      rw [a7]
      have a8 := Rat.mul_lt_mul_of_pos_right a5 (show 0 < 2 * u by grind)
      grind
    have hsw : (sg s * sg t) * w ≤ C := by rcases hs1 with h | h <;> rw [h] <;> grind
    -- u is small against C
    have hue : 2 * u ≤ C * P (-(f.fractionBits : Int) - 1) := by
      have a1 : P (f.fractionBits + 1) * P (-(f.fractionBits : Int) - 1) = 1 := by
        rw [← P_add, show (f.fractionBits : Int) + 1 + (-(f.fractionBits : Int) - 1) = 0 by omega]; rfl
      have a2 : P (f.fractionBits + 1) * u * 2 ≤ C := by grind
      have a3 := Rat.mul_le_mul_of_nonneg_right a2 (Rat.le_of_lt (P_pos (-(f.fractionBits : Int) - 1)))
      have a4 : P (f.fractionBits + 1) * u * 2 * P (-(f.fractionBits : Int) - 1) = (P (f.fractionBits + 1) * P (-(f.fractionBits : Int) - 1)) * (2 * u) := by grind
      rw [a4, a1] at a3
      grind
    have hPe : P (-(f.fractionBits : Int) - 1) ≤ 1 := by
      have : P (-(f.fractionBits : Int) - 1) ≤ P 0 := P_mono (by omega)
      exact this
    have hCe := Rat.mul_le_mul_of_nonneg_left hPe hC0
    have hC2 : C + u ≤ 2 * C := by grind
    obtain ⟨z, hz1, hz2, _⟩ := write_val f hf (s ^^ t) v (i - j - more - 1) z0 (C + u) (by rw [hu, hz0d]) (by grind) (by grind) (lt_of_le_lt hC2 hC)
    refine ⟨_, hdef, z, hz1, ?_, ?_, ?_, ?_⟩
    · have h3 := hz2.1
      have h5 := Rat.mul_le_mul_of_nonneg_right hPe (Rat.le_of_lt hPp)
      have h6 := Rat.mul_le_mul_of_nonneg_left hPe (Rat.le_of_lt (P_pos (-(f.fractionBits : Int) - 1)))
      have h7 : u * P (-(f.fractionBits : Int) - 1) ≤ u := by grind
      grind
    · have h3 := hz2.2.1
      have h5 := Rat.mul_le_mul_of_nonneg_right hPe (Rat.le_of_lt hPp)
      have h7 : u * P (-(f.fractionBits : Int) - 1) ≤ u := by grind
      grind
    · intro hhas
      obtain ⟨N, k, hk1, hk2, hk3⟩ := hhas
      -- w is a whole number of units, so the division left nothing over
      have hPk := P_pos k
      have hNk : (sg s * sg t) * w < P (f.fractionBits + 1) * P k := by
        have : (N.natAbs : Rat) < P ((f.fractionBits + 1 : Nat) : Int) := by rw [P_nat]; exact Rat.natCast_lt_natCast.2 hk2
        have a6 : ((f.fractionBits + 1 : Nat) : Int) = (f.fractionBits : Int) + 1 := by omega
        rw [a6] at this
        have h7 := Rat.mul_lt_mul_of_pos_right this hPk
        have h8 : 0 ≤ (N.natAbs : Rat) * P k := Rat.mul_nonneg Rat.natCast_nonneg (Rat.le_of_lt hPk)
        rcases hs1 with h | h <;> rw [h] <;> rcases int_cast_abs N with h' | h' <;> rw [h'] at hk1 <;> grind
      have hlt : P (i - j - more) < P k := by
        rw [hu2]
        have h7 : P (f.fractionBits + 1) * (2 * u) < P (f.fractionBits + 1) * P k := by grind
        exact Rat.lt_of_mul_lt_mul_left h7 (Rat.le_of_lt (P_pos _))
      have hle : i - j - more ≤ k := Int.le_of_lt (P_lt_imp hlt)
      have hdv : n ∣ dividend := by
        have e1 : P k = ((2 ^ (k - (i - j - more)).toNat : Nat) : Rat) * P (i - j - more) := P_split hle
        rw [hu2] at e1
        generalize (k - (i - j - more)).toNat = g at *
        -- N 2^g n = ± m 2^more
        have e2 : (N : Rat) * ((2 ^ g : Nat) : Rat) * (n : Rat) = (sg s * sg t) * ((m : Rat) * P more) := by
          have hu0 : 0 < 2 * u := by grind
          have e3 : ((N : Rat) * ((2 ^ g : Nat) : Rat) * (n : Rat)) * (2 * u) = ((sg s * sg t) * ((m : Rat) * P more)) * (2 * u) := by
            have : w * (n : Rat) = (N : Rat) * (((2 ^ g : Nat) : Rat) * (2 * u)) * (n : Rat) := by rw [hk1, e1]
            rw [hwm] at this
            grind
          exact Rat.le_antisymm (Rat.le_of_mul_le_mul_right (by rw [e3]; exact Rat.le_refl) hu0) (Rat.le_of_mul_le_mul_right (by rw [e3]; exact Rat.le_refl) hu0)
        rw [P_nat, ← Rat.natCast_mul, ← hdd] at e2
        have e4 : ((N * ((2 ^ g : Nat) : Int) * (n : Int) : Int) : Rat) = (N : Rat) * ((2 ^ g : Nat) : Rat) * (n : Rat) := by
          rw [Rat.intCast_mul, Rat.intCast_mul, Rat.intCast_natCast, Rat.intCast_natCast]
        have hdvi : (n : Int) ∣ (dividend : Int) := by
          rcases hs1 with h | h
          · refine ⟨N * ((2 ^ g : Nat) : Int), ?_⟩
            rw [h, ← e4] at e2
            have : ((N * ((2 ^ g : Nat) : Int) * (n : Int) : Int) : Rat) = ((dividend : Int) : Rat) := by rw [e2, Rat.intCast_natCast]; grind
            have := Rat.intCast_inj.1 this
            rw [← this]; exact Int.mul_comm _ _
          · refine ⟨-(N * ((2 ^ g : Nat) : Int)), ?_⟩
            rw [h, ← e4] at e2
            have : ((N * ((2 ^ g : Nat) : Int) * (n : Int) : Int) : Rat) = ((-(dividend : Int) : Int) : Rat) := by rw [e2, Rat.intCast_neg, Rat.intCast_natCast]; grind
            have := Rat.intCast_inj.1 this
            rw [Int.mul_neg, Int.mul_comm (n : Int), this, Int.neg_neg]
        exact Int.natCast_dvd_natCast.1 hdvi
      have hz0 := d2 hdv
      rw [hz2.2.2.1 (by rw [hz0]; exact ⟨N, k, hk1, hk2, hk3⟩), hz0]
    · intro hw0
      refine hz2.2.2.2 ?_
      rw [hz0d, hst]
      have hvu : 0 ≤ (v : Rat) * u := Rat.mul_nonneg Rat.natCast_nonneg (Rat.le_of_lt hPp)
      rcases hs1 with h | h
      · rw [h]; grind
      · exfalso
        rw [h] at hmp
        have := Rat.mul_pos (P_pos (f.fractionBits + 1)) hPp
        grind

theorem rootFrom_spec (n : Nat) : ∀ (todo root : Nat), root * root ≤ n → n < (root + 2 ^ todo) * (root + 2 ^ todo) →
    Datum.rootFrom n todo root * Datum.rootFrom n todo root ≤ n ∧ n < (Datum.rootFrom n todo root + 1) * (Datum.rootFrom n todo root + 1)
  | 0, root, h1, h2 => by rw [Nat.pow_zero] at h2; exact ⟨h1, h2⟩
  | todo + 1, root, h1, h2 => by
    unfold Datum.rootFrom
    simp only [Nat.one_shiftLeft]
    by_cases h : (root + 2 ^ todo) * (root + 2 ^ todo) ≤ n
    · rw [if_pos h]
      refine rootFrom_spec n todo (root + 2 ^ todo) h ?_
      rw [show root + 2 ^ todo + 2 ^ todo = root + 2 ^ (todo + 1) by rw [Nat.pow_succ]; omega]
      exact h2
    · rw [if_neg h]
      exact rootFrom_spec n todo root h1 (by omega)

theorem rootFrom_all (n : Nat) : ∃ r, Datum.rootFrom n (n.log2 / 2 + 1) 0 = r ∧ r * r ≤ n ∧ n < (r + 1) * (r + 1) := by
  refine ⟨_, rfl, rootFrom_spec n _ 0 (Nat.zero_le _) ?_⟩
  rw [Nat.zero_add, ← Nat.pow_add]
  exact Nat.lt_of_lt_of_le Nat.lt_log2_self (Nat.pow_le_pow_right (by decide) (by omega))

theorem write_sign (f : Format) (s : Bool) (m : Nat) (e : Int) {s' : Bool} {m' : Nat} {e' : Int} {z : Rat}
    (h : f.read (f.write (.number s m e)) = .number s' m' e') (hz : z = sg s' * (m' : Rat) * P e') : s = false → 0 ≤ z := by
  rintro rfl
  have hs : s' = false := by
    have hw : ∃ r, f.write (.number false m e) = f.word false r ∧ r ≤ f.infRung := by
      show ∃ r, f.nearest false m e = f.word false r ∧ r ≤ f.infRung
      unfold Format.nearest
      split
      · exact ⟨0, rfl, Nat.zero_le _⟩
      · exact ⟨_, rfl, Nat.min_le_right _ _⟩
    obtain ⟨r, hr1, hr2⟩ := hw
    obtain ⟨a, b⟩ := word_parts f false r (by have := infRung_lt f; omega)
    rw [hr1] at h
    unfold Format.read at h
    simp only [a, b] at h
    split at h
    · cases h; rfl
    · split at h
      · cases h; rfl
      · split at h <;> cases h
  subst hs
  rw [hz]
  have : (0 : Rat) ≤ (m' : Rat) * P e' := Rat.mul_nonneg Rat.natCast_nonneg (Rat.le_of_lt (P_pos e'))
  simp [sg]; grind

theorem sq_le_sq {a b : Rat} (hb : 0 ≤ b) (h : a * a ≤ b * b) : a ≤ b := by
  by_cases hab : a ≤ b
  · exact hab
  · exfalso
    have h1 : b < a := by grind
    have h2 := Rat.mul_lt_mul_of_pos_right h1 (show 0 < a by grind)
    have h3 := Rat.mul_le_mul_of_nonneg_left (Rat.le_of_lt h1) hb
    grind
theorem sq_lt_sq {a b : Rat} (hb : 0 ≤ b) (h : a * a < b * b) : a < b := by
  by_cases hab : a < b
  · exact hab
  · exfalso
    have h1 : b ≤ a := by grind
    have h2 := Rat.mul_le_mul_of_nonneg_right h1 (show 0 ≤ a by grind)
    have h3 := Rat.mul_le_mul_of_nonneg_left h1 hb
    grind

/-- z is, but for E, the root of q. -/
def RootOf (z q E : Rat) : Prop := 0 ≤ z ∧ ∀ u : Rat, 0 ≤ u → (u * u ≤ q → u ≤ z + E) ∧ (q ≤ u * u → z ≤ u + E)

/-- The square root of a number that is not below 0. -/
theorem Val.sqrt {f : Format} {B : Int} (hf : Roomy f B) {x : Nat} {q : Rat} (hx : Val f x q) (h0 : 0 ≤ q) (C : Rat) (hC0 : 0 ≤ C) (hq : q ≤ C * C) (hC : 2 * C < P B) :
    ∃ r, f.sqrt x = some r ∧ ∃ z, Val f r z ∧ RootOf z q (2 * C * P (-(f.fractionBits : Int) - 1) + P (f.leastPlace - 1)) := by
  obtain ⟨s, m, i, hx1, hx2⟩ := hx
  have hE : 0 ≤ 2 * C * P (-(f.fractionBits : Int) - 1) + P (f.leastPlace - 1) := by
    have := Rat.mul_nonneg hC0 (Rat.le_of_lt (P_pos (-(f.fractionBits : Int) - 1)))
    have := P_pos (f.leastPlace - 1)
    grind
  by_cases hm : m = 0
  · subst hm
    have hq0 : q = 0 := by rw [hx2]; simp
    obtain ⟨z, hz1, hz2, _⟩ := write_val f hf s 0 i 0 (2 * C) (by simp) (by grind) (by grind) hC
    have hz : z = 0 := hz2.2.2.1 ⟨0, f.leastPlace, by simp, Nat.two_pow_pos _, Int.le_refl _⟩
    subst hz
    refine ⟨f.write (.number s 0 i), by unfold Format.sqrt; rw [hx1]; rfl, 0, hz1, Rat.le_refl, fun u hu => ⟨fun h => ?_, fun h => by grind⟩⟩
    have : u ≤ 0 := sq_le_sq Rat.le_refl (by rw [hq0] at h; simpa using h)
    grind
  · have hs : s = false := by
      cases s
      · rfl
      · exfalso
        have h1 : (0 : Rat) < (m : Rat) := Rat.natCast_pos.2 (by omega)
        have h2 := Rat.mul_pos h1 (P_pos i)
        rw [hx2] at h0
        simp [sg] at h0
        grind
    subst hs
    obtain ⟨more1, hm1⟩ : ∃ k, k = 2 * (f.fractionBits + 2) - m.log2 := ⟨_, rfl⟩
    obtain ⟨more, hm2⟩ : ∃ k, k = more1 + ((i - more1) % 2).toNat := ⟨_, rfl⟩
    obtain ⟨whole, hwh, w1, w2⟩ := rootFrom_all (m <<< more)
    obtain ⟨v, hv⟩ : ∃ k, k = 2 * whole + (whole * whole != m <<< more).toNat := ⟨_, rfl⟩
    obtain ⟨h, hh⟩ : ∃ k, k = (i - more) / 2 := ⟨_, rfl⟩
    have hdef : f.sqrt x = some (f.write (.number false v (h - 1))) := by
      unfold Format.sqrt
      rw [hx1]
      show Option.map f.write (if m = 0 then _ else _) = _
      rw [if_neg hm, hv, hh, ← hwh, hm2, hm1]; rfl
    have hih : i = 2 * h + more := by
      have h1 := Int.emod_nonneg (i - more1) (show (2 : Int) ≠ 0 by decide)
      have h2 := Int.emod_lt_of_pos (i - more1) (show (0 : Int) < 2 by decide)
      omega
    rw [Nat.shiftLeft_eq] at w1 w2 hv
    -- q = m 2^more P h P h
    have hqe : q = ((m * 2 ^ more : Nat) : Rat) * (P h * P h) := by
      have : P i = P more * (P h * P h) := by rw [← P_add, ← P_add]; congr 1; omega
      rw [hx2, this, P_nat, Rat.natCast_mul]; simp [sg]; grind
    have hPh := P_pos h
    obtain ⟨n, hn⟩ : ∃ k, k = m * 2 ^ more := ⟨_, rfl⟩
    rw [← hn] at w1 w2 hv hqe
    have r1 : ((whole : Rat) * P h) * ((whole : Rat) * P h) ≤ q := by
      have a := Rat.natCast_le_natCast.2 w1
      rw [Rat.natCast_mul] at a
      have b := Rat.mul_le_mul_of_nonneg_right a (Rat.mul_nonneg (Rat.le_of_lt hPh) (Rat.le_of_lt hPh))
      rw [hqe]; grind
    have r2 : q < (((whole : Rat) + 1) * P h) * (((whole : Rat) + 1) * P h) := by
      have a := Rat.natCast_lt_natCast.2 w2
      rw [Rat.natCast_mul, Rat.natCast_add] at a
      have b := Rat.mul_lt_mul_of_pos_right a (Rat.mul_pos hPh hPh)
      have c : ((1 : Nat) : Rat) = 1 := rfl
      rw [c] at b
      rw [hqe]; grind
    have hwp : 0 ≤ (whole : Rat) * P h := Rat.mul_nonneg Rat.natCast_nonneg (Rat.le_of_lt hPh)
    have hwC : (whole : Rat) * P h ≤ C := sq_le_sq hC0 (Rat.le_trans r1 hq)
    -- many digits
    have hbig : 2 ^ (f.fractionBits + 2) ≤ whole := by
      apply Nat.le_of_not_lt
      intro hlt
      have a1 : 2 ^ m.log2 ≤ m := Nat.log2_self_le hm
      have a2 : 2 ^ (2 * (f.fractionBits + 2)) ≤ n := by
        rw [hn]
        have t1 : 2 ^ (2 * (f.fractionBits + 2)) ≤ 2 ^ (m.log2 + more) := Nat.pow_le_pow_right (by decide) (by omega)
        rw [Nat.pow_add 2 m.log2] at t1
        exact Nat.le_trans t1 (Nat.mul_le_mul_right _ a1)
      have a3 : (whole + 1) * (whole + 1) ≤ 2 ^ (f.fractionBits + 2) * 2 ^ (f.fractionBits + 2) := Nat.mul_le_mul hlt hlt
      rw [← Nat.pow_add, show f.fractionBits + 2 + (f.fractionBits + 2) = 2 * (f.fractionBits + 2) by omega] at a3
      omega
    have hPhC : 2 * P h ≤ C * P (-(f.fractionBits : Int) - 1) := by
      have a1 : P ((f.fractionBits + 2 : Nat) : Int) ≤ (whole : Rat) := by rw [P_nat]; exact Rat.natCast_le_natCast.2 hbig
      have a2 := Rat.mul_le_mul_of_nonneg_right a1 (Rat.le_of_lt hPh)
      have a3 : P ((f.fractionBits + 2 : Nat) : Int) * P h ≤ C := by grind
      have a4 := Rat.mul_le_mul_of_nonneg_right a3 (Rat.le_of_lt (P_pos (-(f.fractionBits : Int) - 1)))
      have a5 : P ((f.fractionBits + 2 : Nat) : Int) * P (-(f.fractionBits : Int) - 1) = 2 := by
        rw [← P_add, show ((f.fractionBits + 2 : Nat) : Int) + (-(f.fractionBits : Int) - 1) = 1 by omega]; rfl
      have a6 : P ((f.fractionBits + 2 : Nat) : Int) * P h * P (-(f.fractionBits : Int) - 1) = (P ((f.fractionBits + 2 : Nat) : Int) * P (-(f.fractionBits : Int) - 1)) * P h := by grind
      rw [a6, a5] at a4
      exact a4
    have hu1 : P h = 2 * P (h - 1) := P_half h
    have hup := P_pos (h - 1)
    -- what is written
    obtain ⟨z0, hz0⟩ : ∃ k, k = sg false * (v : Rat) * P (h - 1) := ⟨_, rfl⟩
    have hz0a : (whole : Rat) * P h ≤ z0 ∧ z0 ≤ (whole : Rat) * P h + P (h - 1) ∧ (whole * whole = n → z0 = (whole : Rat) * P h) := by
      have hsg : sg false = 1 := rfl
      cases hc : (whole * whole != n)
      · rw [hc] at hv
        rw [hz0, hv, hsg, Bool.toNat_false, Nat.add_zero, Rat.natCast_mul, hu1]
        have c : ((2 : Nat) : Rat) = 2 := rfl
        rw [c]
        exact ⟨by grind, by grind, fun _ => by grind⟩
      · rw [hc] at hv
        rw [hz0, hv, hsg, Bool.toNat_true, Rat.natCast_add, Rat.natCast_mul, hu1]
        have c : ((2 : Nat) : Rat) = 2 := rfl
        have c' : ((1 : Nat) : Rat) = 1 := rfl
        rw [c, c']
        refine ⟨by grind, by grind, fun he => ?_⟩
        exfalso
        simp [he] at hc
    have hCe := Rat.mul_nonneg hC0 (Rat.le_of_lt (P_pos (-(f.fractionBits : Int) - 1)))
    have hPe : P (-(f.fractionBits : Int) - 1) ≤ 1 := by
      have : P (-(f.fractionBits : Int) - 1) ≤ P 0 := P_mono (by omega)
      exact this
    have hCe2 := Rat.mul_le_mul_of_nonneg_left hPe hC0
    obtain ⟨z, hz1, hz2, _⟩ := write_val f hf false v (h - 1) z0 (C + P (h - 1)) hz0 (by grind) (by grind) (by grind)
    have hzn : 0 ≤ z := by
      obtain ⟨s', m', e', e1, e2⟩ := hz1
      exact write_sign f false v (h - 1) e1 e2 rfl
    refine ⟨_, hdef, z, hz1, hzn, fun u hu => ⟨fun hle => ?_, fun hge => ?_⟩⟩
    · -- u ≤ √q < (whole + 1) P h
      have k1 : u < ((whole : Rat) + 1) * P h := sq_lt_sq (by grind) (lt_of_le_lt hle r2)
      have k2 := hz2.2.1
      have k3 := Rat.mul_le_mul_of_nonneg_right hPe (Rat.le_of_lt hup)
      by_cases hex : whole * whole = n
      · have e1 := hz0a.2.2 hex
        have k4 : u ≤ (whole : Rat) * P h := by
          refine sq_le_sq hwp (Rat.le_trans hle ?_)
          rw [hqe, ← hex, Rat.natCast_mul]; grind
        grind
      · have k5 : (whole : Rat) * P h + P (h - 1) ≤ z0 := by
          have hc : (whole * whole != n) = true := by simpa using hex
          rw [hc] at hv
          rw [hz0, hv, show sg false = 1 from rfl, Bool.toNat_true, Rat.natCast_add, Rat.natCast_mul, hu1]
          have c : ((2 : Nat) : Rat) = 2 := rfl
          have c' : ((1 : Nat) : Rat) = 1 := rfl
          rw [c, c']; grind
        grind
    · have k1 : (whole : Rat) * P h ≤ u := sq_le_sq hu (Rat.le_trans r1 hge)
      have k2 := hz2.1
      have k3 := Rat.mul_le_mul_of_nonneg_right hPe (Rat.le_of_lt hup)
      have k4 := hz0a.2.1
      grind

end Go.Proofs.Ytjabppkocjpikaa.Flt
