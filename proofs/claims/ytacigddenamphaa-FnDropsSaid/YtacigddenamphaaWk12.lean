/- The walk over the choice of a kind; a region that draws its order and makes a variable, by an invariant. -/
import Derived.Test.YtacigddenamphaaWk11
namespace Go.Proofs.Ytacigddenamphaa
open Go.RowKit

set_option maxHeartbeats 400000 in
theorem at_in (b off len cap : Nat) (c : Nat) (w : World) (hk : 2 < len) (hc : w.cell? ⟨b, off + 2, none⟩ = some (.int .u8 c)) (hlt : c < 256) :
    Calls Try.prog 17 #[.slice (some ⟨b, off, none⟩) len cap, .int .i64 2, .int .i64 3] w fun e w' => e = .returned (.int .i64 ((c : Int) % 3)) ∧ w' = w := by
  go_enter Try.func17, Try.ntmps17
  go_wp2
  go_ret
  exact ⟨rfl, rfl⟩

set_option maxHeartbeats 400000 in
theorem at_out (a : Option Addr) (len cap : Nat) (w : World) (hk : len ≤ 2) :
    Calls Try.prog 17 #[.slice a len cap, .int .i64 2, .int .i64 3] w fun e w' => e = .returned (.int .i64 0) ∧ w' = w := by
  go_enter Try.func17, Try.ntmps17
  go_wp2
  go_ret
  exact ⟨rfl, rfl⟩

/-- The kind that the bytes choose. -/
def kindOf (bs : List Nat) : Int := if 2 < bs.length then ((bs.getD 2 0 : Nat) : Int) % 3 else 0
theorem kindOf_bd (bs : List Nat) : kindOf bs = 0 ∨ kindOf bs = 1 ∨ kindOf bs = 2 := by
  unfold kindOf; split <;> omega

theorem at_any (v : Value) (bs : List Nat) (w : World) (hb : Bytes w v bs) :
    Calls Try.prog 17 #[v, .int .i64 2, .int .i64 3] w fun e w' => e = .returned (.int .i64 (kindOf bs)) ∧ w' = w := by
  obtain ⟨h1, h2, h3⟩ := hb
  unfold kindOf
  by_cases hlt : 2 < bs.length
  · rw [if_pos hlt]
    rcases h3 with ⟨_, _, _, rfl⟩ | ⟨b, off, cap, rfl, hc⟩
    · simp at hlt
    · refine at_in b off bs.length cap (bs.getD 2 0) w hlt (hc 2 hlt) (h2 _ ?_)
      rw [List.getD_eq_getElem?_getD, List.getElem?_eq_getElem hlt]; exact List.getElem_mem hlt
  · rw [if_neg hlt]
    rcases h3 with ⟨a, cap, rfl, rfl⟩ | ⟨b, off, cap, rfl, hc⟩
    · exact at_out a 0 cap w (by omega)
    · exact at_out (some ⟨b, off, none⟩) bs.length cap w (by omega)

section
variable {P : Program}

/-- Where each operation waits for earlier ones alone, and none may come up any more, all have come up. -/
theorem all_listed {md : Region.Mode} {ops : Array Oper} {listed : Array Bool} (hb : ∀ i o, ops[i]? = some o → ∀ e ∈ o.after, Region.binds md e = true → e.on < i) (hs : listed.size = ops.size)
    (hr : Region.ready md ops listed = []) : ∀ i, i < ops.size → listed.getD i false = true := by
  intro i
  induction i using Nat.strongRecOn with
  | _ i ih =>
    intro hi
    cases h : listed.getD i false with
    | true => rfl
    | false =>
      exfalso
      have hm : i ∈ Region.ready md ops listed := by
        refine mem_ready.2 ⟨?_, ops[i], Array.getElem?_eq_getElem hi, fun e he hbd => ?_⟩
        · have hi' : i < listed.size := by omega
          simp [hi'] at h ⊢; exact h
        · have := hb i ops[i] (Array.getElem?_eq_getElem hi) e he hbd
          exact ih e.on this (by omega)
      rw [hr] at hm; cases hm

/-- How many have not come up yet. -/
def left (listed : Array Bool) : Nat := listed.toList.countP (!·)

theorem left_set {listed : Array Bool} {i : Nat} (h : listed.getD i true = false) : left (listed.setIfInBounds i true) + 1 = left listed := by
  have hi : i < listed.size := by
    apply Nat.lt_of_not_ge
    intro hge
    simp [Array.getElem?_eq_none hge] at h
  have hf : listed.toList[i]'(by simpa using hi) = false := by
    simp [hi] at h; simpa using h
  unfold left
  rw [Array.toList_setIfInBounds, List.countP_set (by simpa using hi), hf]
  have : 0 < List.countP (fun x => !x) listed.toList := by
    rw [List.countP_pos_iff]
    exact ⟨false, by rw [← hf]; exact List.getElem_mem _, rfl⟩
  simp only [Bool.not_false, if_true, Bool.not_true, Bool.false_eq_true, if_false]
  omega

theorem wpAny_of_inv {md : Region.Mode} {ops : Array Oper} {Q' : Exit → Act → World → Prop} (S : Array Bool → Act → World → Prop)
    (hb : ∀ i o, ops[i]? = some o → ∀ e ∈ o.after, Region.binds md e = true → e.on < i)
    (h1 : ∀ listed a w i o, S listed a w → listed.size = ops.size → ops[i]? = some o → listed.getD i true = false → (∀ e ∈ o.after, Region.binds md e = true → listed.getD e.on false = true) →
      o.guard = none ∧ o.wp P a w (fun a' w' => S (listed.setIfInBounds i true) a' w') Q')
    (h2 : ∀ listed a w, S listed a w → (∀ i, i < ops.size → listed.getD i false = true) → Q' .normal a w) :
    ∀ (f : Nat) (listed : Array Bool) (a : Act) (w : World), listed.size = ops.size → left listed ≤ f → S listed a w → wpAny P md ops Q' f listed a w := by
  intro f
  induction f with
  | zero =>
    intro listed a w hs hl hS
    have hr : Region.ready md ops listed = [] := by
      cases hr : Region.ready md ops listed with
      | nil => rfl
      | cons i r =>
        exfalso
        have hi : i ∈ Region.ready md ops listed := by rw [hr]; exact List.mem_cons_self
        have := left_set (mem_ready.1 hi).1
        omega
    exact ⟨hr, h2 listed a w hS (all_listed hb hs hr)⟩
  | succ f ih =>
    intro listed a w hs hl hS
    refine ⟨fun hr => h2 listed a w hS (all_listed hb hs hr), fun i hi => ?_⟩
    obtain ⟨hun, o, ho, hall⟩ := mem_ready.1 hi
    obtain ⟨hg, hw⟩ := h1 listed a w i o hS hs ho hun hall
    unfold wpOp
    simp only [ho, Region.wanted, hg, if_true]
    have hls := left_set hun
    refine .inl (Oper.wp_mono (fun a' w' hS' => ih _ a' w' (by simpa using hs) (by omega) hS') hw)

/-- A region that draws its order, by an invariant over what has come up. -/
theorem wp_region_inv {id : Nat} {Q : Exit → Act → World → Prop} {a : Act} {w : World} {l : List Oper} (S : Array Bool → Act → World → Prop) (hm : P.follows .mixedOrders = true)
    (hb : (l.zipIdx.all fun p => p.1.after.all fun e => decide (e.on < p.2)) = true)
    (h0 : S (Array.replicate l.length false) a { w with drawn := w.drawn + 1 })
    (h1 : ∀ listed a w i o, S listed a w → listed.size = l.length → l[i]? = some o → listed.getD i true = false → (∀ e ∈ o.after, Region.binds .any e = true → listed.getD e.on false = true) →
      o.guard = none ∧ o.wp P a w (fun a' w' => S (listed.setIfInBounds i true) a' w') Q)
    (h2 : ∀ listed a w, S listed a w → (∀ i, i < l.length → listed.getD i false = true) → Q .normal a w) : (Code.region id l.toArray true).wp P Q a w := by
  refine wp_region_any hm ?_
  refine wpAny_of_inv S (fun i o ho e he _ => ?_) (fun listed a w i o hS hs ho => h1 listed a w i o hS (by simpa using hs) (by simpa using ho)) (fun listed a w hS h => h2 listed a w hS (by simpa using h)) _ _ _ _ (by simp) ?_ (by simpa using h0)
  · have hz : (o, i) ∈ l.zipIdx := List.mem_zipIdx_iff_getElem?.2 (by simpa using ho)
    have h3 := List.all_eq_true.1 hb _ hz
    have h4 := Array.all_eq_true'.1 h3 e he
    exact of_decide_eq_true h4
  · unfold left
    have := List.countP_le_length (p := fun x : Bool => !x) (l := List.replicate l.length false)
    simpa using this

end

/-- A frame in which some slots are written over. -/
def upd (a : Act) (f : Nat → Option Value) : Act := { a with tmps := a.tmps.mapIdx fun i v => (f i).getD v }

theorem upd_none (a : Act) : upd a (fun _ => none) = a := by
  unfold upd
  have : (a.tmps.mapIdx fun i v => ((fun _ => none : Nat → Option Value) i).getD v) = a.tmps := by
    apply Array.ext
    · simp
    · intro i h1 h2; simp
  rw [this]
theorem upd_put (a : Act) (f : Nat → Option Value) (d : Nat) (v : Value) : (upd a f).put (some d) v = upd a (fun i => if i = d then some v else f i) := by
  unfold upd Act.put
  simp only
  congr 1
  apply Array.ext
  · simp
  · intro i h1 h2
    by_cases h : i = d
    · subst h; simp
    · have h3 : i < (a.tmps.mapIdx fun i v => (f i).getD v).size := by simpa using h1
      rw [Array.getElem_setIfInBounds_ne h3 (fun e => h e.symm)]
      simp [h]
theorem upd_eval_some {a : Act} {f : Nat → Option Value} {t : Nat} {v : Value} (h : f t = some v) (ht : t < a.tmps.size) : (upd a f).eval (.tmp t) = v := by
  unfold upd Act.eval
  simp [ht, h]
theorem upd_eval_none {a : Act} {f : Nat → Option Value} {t : Nat} (h : f t = none) : (upd a f).eval (.tmp t) = a.eval (.tmp t) := by
  unfold upd Act.eval
  by_cases ht : t < a.tmps.size
  · simp [ht, h]
  · simp [ht]

/-- The operation yields v at once, or calls a function that hands back v and makes new memory alone. -/
def YieldsE (P : Program) (a : Act) (o : Oper) (w : World) (v : Value) : Prop :=
  (execOp a.eval o).run P w = .ok (.value v) w ∨
  ∃ fn args, (execOp a.eval o).run P w = .ok (.enter fn args) w ∧ Calls P fn args w fun e w' => e = .returned v ∧ Ext w w'

theorem YieldsE.wp {P : Program} {a : Act} {o : Oper} {w : World} {v : Value} {K : Act → World → Prop} {Q : Exit → Act → World → Prop} (h : YieldsE P a o w v)
    (hk : ∀ w', Ext w w' → K (a.put o.dst v) w') : o.wp P a w K Q := by
  unfold Oper.wp
  rcases h with h | ⟨fn, args, h, hc⟩
  · rw [h]; exact hk w (Ext.refl w)
  · rw [h]
    exact hc.mono fun e w' ⟨he, hw⟩ => by subst he; exact hk w' hw

/-- A pointer to the head of a block. -/
def headOf (b : Nat) : Value := .pointer (some ⟨b, 0, none⟩)

/-- A region that draws its order: its operations are quiet, but for one that makes a variable and the last one, which stores into it. Wherever the variable comes to lie, it holds in the end what is stored. -/
theorem wp_region_fresh {P : Program} {id : Nat} {Q : Exit → Act → World → Prop} {A0 : Act} {w0 : World} {l : List Oper} (n k : Nat) (d : Nat) (T : TypeId) (ds : Nat → Nat) (vals : Nat → Value) (zs fs : Array Value)
    (hm : P.follows .mixedOrders = true) (hb : (l.zipIdx.all fun p => p.1.after.all fun e => decide (e.on < p.2)) = true)
    (hlen : l.length = n + 1) (hkn : k < n) (hds : ∀ i, i < n → ∀ j, j < n → ds i = ds j → i = j) (hdk : ds k = d)
    (hdst : ∀ i o, i < n → l[i]? = some o → o.guard = none ∧ o.dst = some (ds i))
    (hst : ∀ o, l[n]? = some o → o.guard = none ∧ o.dst = none ∧ ∀ j, j < n → ∃ e ∈ o.after, Region.binds .any e = true ∧ e.on = j)
    (hq : ∀ i o, i < n → i ≠ k → l[i]? = some o → ∀ f w, Ext w0 w → (∀ e ∈ o.after, Region.binds .any e = true → e.on ≠ k → f (ds e.on) = some (vals e.on)) →
      (∀ t, (∀ j, j < n → ds j ≠ t) → f t = none) → YieldsE P (upd A0 f) o w (vals i))
    (ha : ∀ o, l[k]? = some o → ∀ f w, (execOp (upd A0 f).eval o).run P w = .ok (.value (headOf w.heap.size)) (w.alloc (.cells zs T)))
    (hs : ∀ o, l[n]? = some o → ∀ f w b, f d = some (headOf b) → (∀ j, j < n → j ≠ k → f (ds j) = some (vals j)) → w.heap[b]? = some (.cells zs T (0, 0)) →
      ∃ w', (execOp (upd A0 f).eval o).run P w = .ok .skip w' ∧ w'.heap[b]? = some (.cells fs T (0, 0)) ∧ Below b w w')
    (hQ : ∀ f w b, Ext w0 w → w0.heap.size ≤ b → w.heap[b]? = some (.cells fs T (0, 0)) → f d = some (headOf b) → (∀ j, j < n → j ≠ k → f (ds j) = some (vals j)) →
      (∀ t, (∀ j, j < n → ds j ≠ t) → f t = none) → Q .normal (upd A0 f) w) :
    (Code.region id l.toArray true).wp P Q A0 w0 := by
  refine wp_region_inv (fun listed a w => Ext w0 w ∧ (listed.getD n false = true → listed.getD k false = true) ∧ ∃ f, a = upd A0 f ∧ (∀ t, (∀ j, j < n → ds j ≠ t) → f t = none) ∧
    (∀ j, j < n → j ≠ k → listed.getD j false = true → f (ds j) = some (vals j)) ∧
    (listed.getD k false = true → ∃ b, f d = some (headOf b) ∧ w0.heap.size ≤ b ∧ w.heap[b]? = some (.cells (if listed.getD n false = true then fs else zs) T (0, 0)))) hm hb ?_ ?_ ?_
  · refine ⟨Ext.drawn _ _, fun h => ?_, fun _ => none, (upd_none A0).symm, fun _ _ => rfl, fun j _ _ h => ?_, fun h => ?_⟩
    · rw [getD_replicate_false] at h; cases h
    · rw [getD_replicate_false] at h; cases h
    · rw [getD_replicate_false] at h; cases h
  · rintro listed a w i o ⟨hE, hnk, f, rfl, hf1, hf2, hf3⟩ hsz ho hun hall
    have hin : i < n + 1 := by rw [← hlen]; exact (List.getElem?_eq_some_iff.1 ho).1
    have hsame : ∀ j, j ≠ i → (listed.setIfInBounds i true).getD j false = listed.getD j false := fun j hj => getD_set_ne false (Ne.symm hj)
    have hself : (listed.setIfInBounds i true).getD i false = true := by
      have : i < listed.size := by omega
      simp [this]
    by_cases hi : i = n
    · -- the store
      subst hi
      obtain ⟨hg, hd, hw⟩ := hst o ho
      have hl : ∀ j, j < i → listed.getD j false = true := fun j hj => by
        obtain ⟨e, he, hbd, hon⟩ := hw j hj
        rw [← hon]; exact hall e he hbd
      obtain ⟨b, hb1, hb2, hb3⟩ := hf3 (hl k hkn)
      have hnn : listed.getD i false = false := by
        have := getD_both (i := i) hun; exact this
      rw [hnn] at hb3
      obtain ⟨w', hr, hc, hB⟩ := hs o ho f w b hb1 (fun j hj hjk => hf2 j hj hjk (hl j hj)) (by simpa using hb3)
      refine ⟨hg, ?_⟩
      unfold Oper.wp
      rw [hr, Oper.upon_skip, hd]
      show Ext w0 w' ∧ _
      refine ⟨Below.trans hE (hB.mono hb2), fun _ => ?_, f, rfl, hf1, fun j hj hjk _ => hf2 j hj hjk (hl j hj), fun _ => ⟨b, hb1, hb2, ?_⟩⟩
      · rw [hsame k (by omega)]; exact hl k hkn
      · rw [hself]; simpa using hc
    · have hin' : i < n := by omega
      obtain ⟨hg, hd⟩ := hdst i o hin' ho
      refine ⟨hg, ?_⟩
      have hff : ∀ j v, j < n → j ≠ i → (if ds j = ds i then some v else f (ds j)) = f (ds j) := fun j v hj hji => by
        rw [if_neg (fun e => hji (hds j hj i hin' e))]
      have hf1' : ∀ v t, (∀ j, j < n → ds j ≠ t) → (fun t => if t = ds i then some v else f t) t = none := fun v t ht => by
        simp only
        rw [if_neg (fun e => ht i hin' e.symm)]; exact hf1 t ht
      by_cases hik : i = k
      · subst hik
        unfold Oper.wp
        rw [ha o ho f w, Oper.upon_value, hd]
        have hnn : listed.getD n false = false := by
          cases h : listed.getD n false with
          | false => rfl
          | true =>
            have h1 := hnk h
            have h2 := getD_both (i := i) hun
            rw [h2] at h1; cases h1
        show Ext w0 (w.alloc _) ∧ _
        refine ⟨hE.alloc _, fun _ => hself, _, upd_put A0 f (ds i) _, hf1' _, fun j hj hji h => ?_, fun _ => ⟨w.heap.size, ?_, hE.size, ?_⟩⟩
        · rw [hff j _ hj hji]
          rw [hsame j hji] at h
          exact hf2 j hj hji h
        · simp only [hdk, if_true]
        · rw [hsame n (by omega), hnn]
          simpa using heap_alloc_at w (.cells zs T) _ rfl
      · refine YieldsE.wp (hq i o hin' hik ho f w hE (fun e he hbd hek => ?_) hf1) fun w' hw' => ?_
        · have h3 := hall e he hbd
          have hlt : e.on < n := by
            have hz : (o, i) ∈ l.zipIdx := List.mem_zipIdx_iff_getElem?.2 (by simpa using ho)
            have h4 := of_decide_eq_true (Array.all_eq_true'.1 (List.all_eq_true.1 hb _ hz) e he)
            simp only at h4
            omega
          exact hf2 e.on hlt hek h3
        · rw [hd]
          refine ⟨hE.trans hw', fun h => ?_, _, upd_put A0 f (ds i) _, hf1' _, fun j hj hjk h => ?_, fun h => ?_⟩
          · rw [hsame n (fun e => hi e.symm)] at h
            rw [hsame k (fun e => hik e.symm)]; exact hnk h
          · by_cases hji : j = i
            · subst hji; simp only [if_true]
            · rw [hff j _ hj hji]
              rw [hsame j hji] at h
              exact hf2 j hj hjk h
          · rw [hsame k (fun e => hik e.symm)] at h
            obtain ⟨b, hb1, hb2, hb3⟩ := hf3 h
            refine ⟨b, ?_, hb2, ?_⟩
            · have := hff k (vals i) hkn (fun e => hik e.symm)
              rw [hdk] at this
              simp only [this]; exact hb1
            · rw [hsame n (fun e => hi e.symm)]; exact hw'.heap hb3
  · rintro listed a w ⟨hE, _, f, rfl, hf1, hf2, hf3⟩ hall
    obtain ⟨b, hb1, hb2, hb3⟩ := hf3 (hall k (by omega))
    rw [hall n (by omega)] at hb3
    exact hQ f w b hE hb2 (by simpa using hb3) hb1 (fun j hj hjk => hf2 j hj hjk (hall j (by omega))) hf1

theorem heap_set {w : World} {b i : Nat} {cs : Array Value} {t : TypeId} (v : Value) (h : w.heap[b]? = some (.cells cs t (0, 0))) :
    (w.setCell ⟨b, i, none⟩ v).heap[b]? = some (.cells (cs.setIfInBounds i v) t (0, 0)) := by
  unfold World.setCell
  simp [Array.getElem?_modify, h]
theorem below_set {w0 w : World} {b : Nat} (h : Below b w0 w) (i : Nat) (v : Value) : Below b w0 (w.setCell ⟨b, i, none⟩ v) := h.setCell (p := ⟨b, i, none⟩) (Nat.le_refl b) v
end Go.Proofs.Ytacigddenamphaa
