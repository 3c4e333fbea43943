/- The walks over the functions that draw numbers from bytes. -/
import Derived.Test.YtacigddenamphaaWk5
namespace Go.Proofs.Ytacigddenamphaa
open Go.RowKit

/-- The words of n / 16. -/
def fdiv (n : Int) : Nat := (floatBits .quo .f32 (floatOfInt .f32 n) 1098907648).getD 0

theorem fdiv_some (n : Int) (h1 : -16 ≤ n) (h2 : n ≤ 16) : floatBits .quo .f32 (floatOfInt .f32 n) 1098907648 = some (fdiv n) := by
  have h : ∀ k : Fin 33, floatBits .quo .f32 (floatOfInt .f32 ((k.val : Int) - 16)) 1098907648 = some (fdiv ((k.val : Int) - 16)) := by decide +kernel
  have := h ⟨(n + 16).toNat, by omega⟩
  have e : (((n + 16).toNat : Nat) : Int) - 16 = n := by omega
  simp only [e] at this
  exact this

/-- The number that a place of some bytes chooses. -/
def numA (bs : List Nat) (k : Nat) : Int := if k < bs.length then ((bs.getD k 0 : Nat) : Int) % 33 - 16 else 3
def numB (bs : List Nat) (k : Nat) : Int := if k < bs.length then ((bs.getD k 0 : Nat) : Int) / 33 - 3 else -2

theorem numA_bd (bs : List Nat) (k : Nat) : -16 ≤ numA bs k ∧ numA bs k ≤ 16 := by
  unfold numA; split <;> omega
theorem numB_bd (bs : List Nat) (hb : ∀ x ∈ bs, x < 256) (k : Nat) : -3 ≤ numB bs k ∧ numB bs k ≤ 4 := by
  unfold numB; split
  · rename_i h
    have := hb (bs.getD k 0) (by rw [List.getD_eq_getElem?_getD, List.getElem?_eq_getElem h]; exact List.getElem_mem h)
    omega
  · omega

set_option maxHeartbeats 400000 in
theorem number_in (b off len cap : Nat) (k c : Nat) (w : World) (hk : k < len) (hc : w.cell? ⟨b, off + k, none⟩ = some (.int .u8 c)) (hlt : c < 256) :
    Calls Try.prog 7 #[.slice (some ⟨b, off, none⟩) len cap, .int .i64 k] w fun e w' => e = .returned (.complex .f32 (fdiv ((c : Int) % 33 - 16)) (fdiv ((c : Int) / 33 - 3))) ∧ w' = w := by
  have h1 := fop (fdiv_some ((c : Int) % 33 - 16) (by omega) (by omega))
  have h2 := fop (fdiv_some ((c : Int) / 33 - 3) (by omega) (by omega))
  go_enter Try.func7, Try.ntmps7
  go_wp2
  go_ret
  exact ⟨rfl, rfl⟩

set_option maxHeartbeats 400000 in
theorem number_out (a : Option Addr) (len cap : Nat) (k : Nat) (w : World) (hk : len ≤ k) :
    Calls Try.prog 7 #[.slice a len cap, .int .i64 k] w fun e w' => e = .returned (.complex .f32 (fdiv 3) (fdiv (-2))) ∧ w' = w := by
  have h1 := fop (fdiv_some 3 (by omega) (by omega))
  have h2 := fop (fdiv_some (-2) (by omega) (by omega))
  go_enter Try.func7, Try.ntmps7
  go_wp2
  go_ret
  exact ⟨rfl, rfl⟩

/-- v is a slice of the bytes bs. -/
def Bytes (w : World) (v : Value) (bs : List Nat) : Prop :=
  bs.length ≤ 9223372036854775807 ∧ (∀ x ∈ bs, x < 256) ∧
  ((∃ a cap, v = .slice a 0 cap ∧ bs = []) ∨ ∃ b off cap, v = .slice (some ⟨b, off, none⟩) bs.length cap ∧ ∀ i, i < bs.length → w.cell? ⟨b, off + i, none⟩ = some (.int .u8 (bs.getD i 0 : Nat)))

theorem Bytes.ext {w w' : World} {v : Value} {bs : List Nat} (h : Bytes w v bs) (he : Ext w w') : Bytes w' v bs := by
  obtain ⟨h1, h2, h3⟩ := h
  refine ⟨h1, h2, ?_⟩
  rcases h3 with h3 | ⟨b, off, cap, hv, hc⟩
  · exact .inl h3
  · exact .inr ⟨b, off, cap, hv, fun i hi => he.cell (hc i hi)⟩

theorem number_any (v : Value) (bs : List Nat) (n : Int) (k : Nat) (w : World) (hb : Bytes w v bs) (hn : n = k) :
    Calls Try.prog 7 #[v, .int .i64 n] w fun e w' => e = .returned (.complex .f32 (fdiv (numA bs k)) (fdiv (numB bs k))) ∧ w' = w := by
  subst hn
  obtain ⟨h1, h2, h3⟩ := hb
  unfold numA numB
  by_cases hlt : k < bs.length
  · rw [if_pos hlt, if_pos hlt]
    rcases h3 with ⟨_, _, _, rfl⟩ | ⟨b, off, cap, rfl, hc⟩
    · simp at hlt
    · refine number_in b off bs.length cap k (bs.getD k 0) w hlt (hc k hlt) (h2 _ ?_)
      rw [List.getD_eq_getElem?_getD, List.getElem?_eq_getElem hlt]; exact List.getElem_mem hlt
  · rw [if_neg hlt, if_neg hlt]
    rcases h3 with ⟨a, cap, rfl, rfl⟩ | ⟨b, off, cap, rfl, hc⟩
    · exact number_out a 0 cap k w (Nat.zero_le _)
    · exact number_out (some ⟨b, off, none⟩) bs.length cap k w (by omega)

/-- The phases that three places choose. -/
def phas (bs : List Nat) (k : Nat) : Value := .agg #[.complex .f32 (fdiv (numA bs k)) (fdiv (numB bs k)),
  .complex .f32 (fdiv (numA bs (k + 1))) (fdiv (numB bs (k + 1))), .complex .f32 (fdiv (numA bs (k + 2))) (fdiv (numB bs (k + 2)))]

set_option maxHeartbeats 400000 in
theorem phas_calls (v : Value) (bs : List Nat) (k : Nat) (w : World) (hb : Bytes w v bs) (hk : k ≤ 90) :
    Calls Try.prog 6 #[v, .int .i64 k] w fun e w' => e = .returned (phas bs k) ∧ Ext w w' := by
  unfold phas
  have hb1 : ∀ w', Ext w w' → Bytes w' v bs := fun w' he => hb.ext he
  have HB := Lib.hid hb1
  clear hb hb1
  go_enter Try.func6, Try.ntmps6
  go_wp2_with (go_at_call 7; first | (refine (number_any _ bs _ k _ (HB.out _ (by repeat (first | exact Ext.refl _ | refine Ext.alloc ?_ _ | refine Ext.setCell ?_ (by simp) _))) (by omega)).mono ?_; rintro e w' ⟨rfl, rfl⟩) | (refine (number_any _ bs _ (k + 1) _ (HB.out _ (by repeat (first | exact Ext.refl _ | refine Ext.alloc ?_ _ | refine Ext.setCell ?_ (by simp) _))) (by omega)).mono ?_; rintro e w' ⟨rfl, rfl⟩) | (refine (number_any _ bs _ (k + 2) _ (HB.out _ (by repeat (first | exact Ext.refl _ | refine Ext.alloc ?_ _ | refine Ext.setCell ?_ (by simp) _))) (by omega)).mono ?_; rintro e w' ⟨rfl, rfl⟩))
  exact bodyPost_ret (v := .agg #[.complex .f32 (fdiv (numA bs k)) (fdiv (numB bs k)), .complex .f32 (fdiv (numA bs (k + 1))) (fdiv (numB bs (k + 1))), .complex .f32 (fdiv (numA bs (k + 2))) (fdiv (numB bs (k + 2)))])
    (by simp [results, Try.results6, go_sem]) rfl ⟨rfl, (by repeat (first | exact Ext.refl _ | refine Ext.alloc ?_ _ | refine Ext.setCell ?_ (by simp) _))⟩

set_option maxHeartbeats 400000 in
theorem rlong_one (a : Option Addr) (len cap : Nat) (a' : Option Addr) (len' cap' : Nat) (w : World) (h1 : 48 < len) :
    Calls Try.prog 5 #[.slice a len cap, .slice a' len' cap'] w fun e w' => e = .returned (.bool true) ∧ w' = w := by
  go_enter Try.func5, Try.ntmps5
  go_wp2
  go_ret
  exact ⟨rfl, rfl⟩
set_option maxHeartbeats 400000 in
theorem rlong_two (a : Option Addr) (len cap : Nat) (a' : Option Addr) (len' cap' : Nat) (w : World) (h1 : ¬ 48 < len) (h2 : 48 < len') :
    Calls Try.prog 5 #[.slice a len cap, .slice a' len' cap'] w fun e w' => e = .returned (.bool true) ∧ w' = w := by
  go_enter Try.func5, Try.ntmps5
  go_wp2
  go_ret
  exact ⟨by simp; omega, rfl⟩
set_option maxHeartbeats 400000 in
theorem rlong_no (a : Option Addr) (len cap : Nat) (a' : Option Addr) (len' cap' : Nat) (w : World) (h1 : ¬ 48 < len) (h2 : ¬ 48 < len') :
    Calls Try.prog 5 #[.slice a len cap, .slice a' len' cap'] w fun e w' => e = .returned (.bool false) ∧ w' = w := by
  go_enter Try.func5, Try.ntmps5
  go_wp2
  go_ret
  exact ⟨by simp; omega, rfl⟩
end Go.Proofs.Ytacigddenamphaa
