/- A region that draws its order and holds one operation that turns what others lean on (an append to a row): what holds of the world, and of what has come up, may part at that operation. -/
import Derived.Test.YtbloljikejinaaaAny
set_option linter.unusedVariables false
namespace Go.Proofs.YtbloljikejinaaaW.PrintMore.AnyPhase
open Go.RowKit Go.Proofs.YtbloljikejinaaaW.PrintMore.AnyOrder
structure Law (m e : Nat) (P : Program) (ops : Array Oper) (C : Bool → World → Prop) (G : Bool → World → World → Prop) (V : Bool → Nat → World → Value → Prop) (a0 : Act) (Q : Exit → Act → World → Prop) : Prop where
  keep : ∀ c b j w w' v, (c = true → b = false ∧ j ≠ e) → G c w w' → V b j w v → V (b || c) j w' v
  same : ∀ b w, C b w → G false w w
  step : ∀ i b o a w, i < m → (i = e → b = false) → ops[i]? = some o → C b w → a.tmps.size = a0.tmps.size → a.defers = a0.defers →
    (∀ j p s, ops[j]? = some p → p.dst = some s → waits ops i j = true → V b j w (at_ a s)) →
    (∀ s, s ∈ o.looksAt ops → (∀ j, writer ops j s = true → waits ops i j = false) → at_ a s = at_ a0 s) →
    if Region.wanted o (yielded ops a.tmps) = true then o.wp P a w (fun a' w' => ∃ v, a' = a.put o.dst v ∧ C (b || i == e) w' ∧ G (i == e) w w' ∧ V (b || i == e) i w' v) Q else i ≠ e ∧ V b i w undef
section
variable {P : Program} {ops : Array Oper} {C : Bool → World → Prop} {G : Bool → World → World → Prop} {V : Bool → Nat → World → Value → Prop} {a0 : Act} {Q : Exit → Act → World → Prop}
structure Inv (e : Nat) (ops : Array Oper) (C : Bool → World → Prop) (V : Bool → Nat → World → Value → Prop) (a0 : Act) (listed : Array Bool) (a : Act) (w : World) : Prop where
  c : C (on_ listed e) w
  size : a.tmps.size = a0.tmps.size
  defers : a.defers = a0.defers
  long : listed.size = ops.size
  done : ∀ j p s, ops[j]? = some p → p.dst = some s → on_ listed j = true → V (on_ listed e) j w (at_ a s)
  old : ∀ s, (∀ j, writer ops j s = true → on_ listed j = false) → at_ a s = at_ a0 s
  shut : ∀ j k, on_ listed j = true → waits ops j k = true → on_ listed k = true
theorem on_phase {listed : Array Bool} {i e : Nat} (hl : i < listed.size) : on_ (listed.setIfInBounds i true) e = (on_ listed e || i == e) := by
  by_cases h : i = e
  · subst h; rw [on_set_same hl]; simp
  · rw [on_set_other h]; simp [h]
theorem inv_step {m e : Nat} (gd : AnyOrder.Good ops a0.tmps.size) (L : Law m e P ops C G V a0 Q) {listed : Array Bool} {a : Act} {w w' : World} {i : Nat} {o : Oper} {v : Value}
    (h : Inv e ops C V a0 listed a w) (ho : ops[i]? = some o) (hi : i < ops.size) (hoff : on_ listed i = false) (hr : ∀ k, waits ops i k = true → on_ listed k = true) (hc : C (on_ listed e || i == e) w') (hg : G (i == e) w w') (hv : V (on_ listed e || i == e) i w' v) :
    Inv e ops C V a0 (listed.setIfInBounds i true) (a.put o.dst v) w' := by
  have hl : i < listed.size := by rw [h.long]; exact hi
  have up : ∀ k, on_ listed k = true → on_ (listed.setIfInBounds i true) k = true := fun k hk => by
    by_cases e : i = k
    · subst e; exact on_set_same hl
    · rw [on_set_other e]; exact hk
  refine ⟨by rw [on_phase hl]; exact hc, by rw [size_put, h.size], by rw [defers_put, h.defers], by simp [h.long], fun j p s hp hs hon => ?_, fun s hs => ?_, fun j k hj hk => ?_⟩
  · rw [on_phase hl]
    by_cases e1 : i = j
    · subst e1
      obtain rfl : o = p := by rw [ho] at hp; exact Option.some.inj hp
      rw [hs, at_put_same v (by rw [h.size]; exact gd.within i o s ho hs)]
      exact hv
    · rw [on_set_other e1] at hon
      have h1 := L.keep (i == e) (on_ listed e) j w w' _ (fun hie => by
        have hie : i = e := by simpa using hie
        subst hie
        exact ⟨hoff, fun hj => e1 hj.symm⟩) hg (h.done j p s hp hs hon)
      have : at_ (a.put o.dst v) s = at_ a s := by
        cases hd : o.dst with
        | none => rfl
        | some d => exact at_put_other v (fun e' => gd.apart i j o p d ho hp (Ne.symm e1) hd (by rw [hs, e']))
      rw [this]; exact h1
  · have : at_ (a.put o.dst v) s = at_ a s := by
      cases hd : o.dst with
      | none => rfl
      | some d =>
        refine at_put_other v (fun e' => ?_)
        have h1 := hs i (by simp [writer, ho, hd, e'])
        rw [on_set_same hl] at h1
        cases h1
    rw [this]
    refine h.old s (fun j hj => ?_)
    have h1 := hs j hj
    by_cases e : i = j
    · subst e; rw [on_set_same hl] at h1; cases h1
    · rwa [on_set_other e] at h1
  · by_cases e : i = j
    · subst e; exact up k (hr k hk)
    · rw [on_set_other e] at hj
      exact up k (h.shut j k hj hk)
theorem row_then {m : Nat} (later : ∀ i j, m ≤ i → i < ops.size → j < i → (j < m → waits ops i j = true) ∧ (m ≤ j → ∃ k, j ≤ k ∧ waits ops i k = true)) (gd : AnyOrder.Good ops a0.tmps.size) :
    ∀ (fuel n : Nat) (listed : Array Bool) (a : Act) (w : World), m ≤ n → listed.size = ops.size → (∀ j, j < ops.size → (on_ listed j = true ↔ j < n)) → left_ ops.size listed ≤ fuel → wpList P ops Q (ops.toList.drop n) a w → wpAny P .any ops Q fuel listed a w := by
  have ends : ∀ (n : Nat) (listed : Array Bool) (a : Act) (w : World), listed.size = ops.size → (∀ j, j < ops.size → (on_ listed j = true ↔ j < n)) → ops.size ≤ n → wpList P ops Q (ops.toList.drop n) a w → Region.ready .any ops listed = [] ∧ Q .normal a w := by
    intro n listed a w hs ho hn h
    refine ⟨?_, ?_⟩
    · cases hr : Region.ready .any ops listed with
      | nil => rfl
      | cons i l =>
        obtain ⟨hi, hoff, _⟩ := (ready_spec hs).1 (show i ∈ Region.ready .any ops listed by rw [hr]; exact List.mem_cons_self)
        rw [(ho i hi).2 (by omega)] at hoff; cases hoff
    · rw [List.drop_of_length_le (by simpa using hn)] at h; exact h
  intro fuel
  induction fuel with
  | zero =>
    intro n listed a w hmn hs ho hf h
    refine ends n listed a w hs ho ?_ h
    refine Nat.not_lt.1 (fun hlt => ?_)
    have hoff : on_ listed n = false := by
      cases hb : on_ listed n with
      | false => rfl
      | true => have := (ho n hlt).1 hb; omega
    have : 0 < left_ ops.size listed := List.countP_pos_iff.2 ⟨n, List.mem_range.2 hlt, by simp [hoff]⟩
    omega
  | succ fuel ih =>
    intro n listed a w hmn hs ho hf h
    by_cases hlt : n < ops.size
    · have hoff : on_ listed n = false := by
        cases hb : on_ listed n with
        | false => rfl
        | true => have := (ho n hlt).1 hb; omega
      refine ⟨fun h0 => ?_, fun i hi => ?_⟩
      · have : n ∈ Region.ready .any ops listed := (ready_spec hs).2 ⟨hlt, hoff, fun k hk => (ho k (by have := gd.before n k hlt hk; omega)).2 (gd.before n k hlt hk)⟩
        rw [h0] at this; cases this
      · obtain ⟨hi, hoi, hr⟩ := (ready_spec hs).1 hi
        have hin : i = n := by
          refine Nat.le_antisymm (Nat.not_lt.1 fun hni => ?_) (Nat.not_lt.1 fun hni => ?_)
          · obtain ⟨k, hk1, hk2⟩ := (later i n (by omega) hi hni).2 hmn
            have h1 := hr k hk2
            have hks := gd.before i k hi hk2
            have := (ho k (by omega)).1 h1
            omega
          · rw [(ho i hi).2 hni] at hoi; cases hoi
        subst hin
        have hg : ops[i]? = some ops[i] := Array.getElem?_eq_getElem hi
        have hd : ops.toList.drop i = ops[i] :: ops.toList.drop (i + 1) := by
          rw [List.drop_eq_getElem_cons (by simpa using hi)]; simp
        rw [hd] at h
        have h1 : wpOp P ops Q i (wpList P ops Q (ops.toList.drop (i + 1))) a w := by unfold wpOp; rw [hg]; exact h
        refine wpOp_mono (fun a' w' h' => ih (i + 1) _ a' w' (by omega) (by simpa using hs) (fun j hj => ?_) ?_ h') h1
        · by_cases e : i = j
          · subst e; rw [on_set_same (by omega)]; simp
          · rw [on_set_other e, ho j hj]; omega
        · have := countP_less (p := fun j => !on_ listed j) (q := fun j => !on_ (listed.setIfInBounds i true) j) (List.range ops.size) (fun j _ hj => by
            by_cases e : i = j
            · subst e; simp [hoff]
            · rwa [on_set_other e] at hj) ⟨i, List.mem_range.2 hi, by simp [hoff], by simp [on_set_same (show i < listed.size by omega)]⟩
          unfold left_ at hf ⊢; omega
    · obtain ⟨h0, hq⟩ := ends n listed a w hs ho (by omega) h
      exact ⟨fun _ => hq, fun i hi => by rw [h0] at hi; cases hi⟩
theorem any_then {m e : Nat} (later : ∀ i j, m ≤ i → i < ops.size → j < i → (j < m → waits ops i j = true) ∧ (m ≤ j → ∃ k, j ≤ k ∧ waits ops i k = true)) (gd : AnyOrder.Good ops a0.tmps.size) (L : Law m e P ops C G V a0 Q) (fin : ∀ listed a w, (∀ j, j < m → j < ops.size → on_ listed j = true) → (∀ j, m ≤ j → on_ listed j = false) → Inv e ops C V a0 listed a w → wpList P ops Q (ops.toList.drop m) a w) :
    ∀ (fuel : Nat) (listed : Array Bool) (a : Act) (w : World), (∀ j, m ≤ j → on_ listed j = false) → Inv e ops C V a0 listed a w → left_ ops.size listed ≤ fuel → wpAny P .any ops Q fuel listed a w := by
  have least : ∀ (m : Nat) (listed : Array Bool), listed.size = ops.size → m < ops.size → on_ listed m = false → ∃ k, k ∈ Region.ready .any ops listed := by
    intro m
    induction m using Nat.strongRecOn with
    | _ m ih =>
      intro listed hl hm hoff
      by_cases hall : ∀ k, waits ops m k = true → on_ listed k = true
      · exact ⟨m, (ready_spec hl).2 ⟨hm, hoff, hall⟩⟩
      · obtain ⟨k, hk⟩ := Classical.not_forall.1 hall
        obtain ⟨hk1, hk2⟩ := Classical.not_imp.1 hk
        have := gd.before m k hm hk1
        exact ih k this listed hl (by omega) (by simpa using hk2)
  have over : ∀ (fuel : Nat) (listed : Array Bool) (a : Act) (w : World), (∀ j, m ≤ j → on_ listed j = false) → Inv e ops C V a0 listed a w → left_ ops.size listed ≤ fuel → (∀ j, j < m → j < ops.size → on_ listed j = true) → wpAny P .any ops Q fuel listed a w := by
    intro fuel listed a w low h hf hall
    refine row_then later gd fuel m listed a w (Nat.le_refl _) h.long (fun j hj => ⟨fun hon => Nat.not_le.1 fun hmj => ?_, fun hjm => hall j hjm hj⟩) hf (fin listed a w hall low h)
    rw [low j hmj] at hon; cases hon
  intro fuel
  induction fuel with
  | zero =>
    intro listed a w low h hf
    refine over 0 listed a w low h hf (fun j hj hjs => ?_)
    cases hb : on_ listed j with
    | true => rfl
    | false =>
      have : 0 < left_ ops.size listed := List.countP_pos_iff.2 ⟨j, List.mem_range.2 hjs, by simp [hb]⟩
      omega
  | succ fuel ih =>
    intro listed a w low h hf
    by_cases hall : ∀ j, j < m → j < ops.size → on_ listed j = true
    · exact over (fuel + 1) listed a w low h hf hall
    obtain ⟨q, hq⟩ := Classical.not_forall.1 hall
    obtain ⟨hq1, hq⟩ := Classical.not_imp.1 hq
    obtain ⟨hq2, hq⟩ := Classical.not_imp.1 hq
    have hq3 : on_ listed q = false := by simpa using hq
    refine ⟨fun h0 => ?_, fun i hi => ?_⟩
    · obtain ⟨k, hk⟩ := least q listed h.long hq2 hq3
      rw [h0] at hk; cases hk
    obtain ⟨hi, hoff, hr⟩ := (ready_spec h.long).1 hi
    have him : i < m := Nat.not_le.1 fun hmi => by rw [hr q ((later i q hmi hi (by omega)).1 hq1)] at hq3; cases hq3
    have ho : ops[i]? = some ops[i] := Array.getElem?_eq_getElem hi
    have low' : ∀ j, m ≤ j → on_ (listed.setIfInBounds i true) j = false := fun j hj => by rw [on_set_other (by omega)]; exact low j hj
    have less : left_ ops.size (listed.setIfInBounds i true) ≤ fuel := by
      have := countP_less (p := fun j => !on_ listed j) (q := fun j => !on_ (listed.setIfInBounds i true) j) (List.range ops.size) (fun j _ hj => by
        by_cases e1 : i = j
        · subst e1; simp [hoff]
        · rwa [on_set_other e1] at hj) ⟨i, List.mem_range.2 hi, by simp [hoff], by simp [on_set_same (show i < listed.size by rw [h.long]; exact hi)]⟩
      unfold left_ at hf ⊢; omega
    have st := L.step i (on_ listed e) ops[i] a w him (fun hie => by subst hie; exact hoff) ho h.c h.size h.defers (fun j p s hp hs hw => h.done j p s hp hs (hr j hw)) (fun s hs hno => h.old s (fun j hj => by
      by_cases e1 : j = i
      · subst e1; exact hoff
      · unfold writer at hj
        cases hp : ops[j]? with
        | none => simp [hp] at hj
        | some p =>
          simp only [hp, beq_iff_eq] at hj
          rcases gd.looks i j _ p s ho hp e1 hs hj with h1 | h1
          · have := hno j (by simp [writer, hp, hj]); rw [this] at h1; cases h1
          · by_cases hon : on_ listed j = true
            · have := h.shut j i hon h1; rw [hoff] at this; cases this
            · simpa using hon))
    unfold wpOp
    rw [ho]
    dsimp only
    split
    · rename_i hw
      rw [if_pos hw] at st
      refine .inl (Oper.wp_mono (fun a' w' hh => ?_) st)
      obtain ⟨v, rfl, hc, hg, hv⟩ := hh
      exact ih _ _ _ low' (inv_step gd L h ho hi hoff hr hc hg hv) less
    · rename_i hw
      rw [if_neg hw] at st
      have hne : (i == e) = false := by simpa using st.1
      exact ih _ _ _ low' (inv_step gd L h ho hi hoff hr (by rw [hne, Bool.or_false]; exact h.c) (by rw [hne]; exact L.same _ w h.c) (by rw [hne, Bool.or_false]; exact st.2)) less
end
section
variable (P : Program) (ops : Array Oper) (e : Nat) (C : Bool → World → Prop) (G : Bool → World → World → Prop) (T : List Nat) (R : Bool → Nat → World → Value → Prop) (vs : List Value) (x : Nat → Value)
def PhOb (k : Nat) (o : Oper) (a : Act) : Prop :=
  ∀ b w, (k = e → b = false) → C b w → (∀ j p s, ops[j]? = some p → p.dst = some s → T.contains j = true → waits ops k j = true → R b j w (x j)) →
    if Region.wanted o (yielded ops a.tmps) = true then Res P (fun v w' => C (b || k == e) w' ∧ G (k == e) w w' ∧ if T.contains k = true then R (b || k == e) k w' v else v = vs.getD k undef) ((execOp a.eval o).run P w) else k ≠ e ∧ T.contains k = false ∧ vs.getD k undef = undef
def PhObs : Nat → List Oper → Act → Prop
  | _, [], _ => True
  | k, o :: l, a => PhOb P ops e C G T R vs x k o a ∧ PhObs (k + 1) l (a.put o.dst (val_ T vs x k))
end
section
variable {P : Program} {ops : Array Oper} {e : Nat} {C : Bool → World → Prop} {G : Bool → World → World → Prop} {T : List Nat} {R : Bool → Nat → World → Value → Prop} {vs : List Value} {x : Nat → Value} {a0 : Act} {Q : Exit → Act → World → Prop}
theorem obs_get (gd : AnyOrder.Good ops a0.tmps.size) : ∀ (l : List Oper) (k : Nat) (a : Act), (∀ j, j < l.length → l[j]? = ops[k + j]?) → Pre ops T vs x a0 k a → PhObs P ops e C G T R vs x k l a →
    ∀ i o, k ≤ i → i < k + l.length → ops[i]? = some o → ∃ A, Pre ops T vs x a0 i A ∧ PhOb P ops e C G T R vs x i o A
  | [], k, a, hl, h, _, i, o, hk, hi, ho => by simp at hi; omega
  | q :: l, k, a, hl, h, hO, i, o, hk, hi, ho => by
    by_cases e1 : k = i
    · subst e1
      have : q = o := by have := hl 0 (by simp); rw [Nat.add_zero, ho] at this; exact Option.some.inj this
      subst this
      exact ⟨a, h, hO.1⟩
    · exact obs_get gd l (k + 1) _ (fun j hj => by have := hl (j + 1) (by simpa using hj); simpa [Nat.add_assoc, Nat.add_comm 1 j] using this) (pre_next gd h (by simpa using (hl 0 (by simp)).symm)) hO.2 i o (by omega) (by simp at hi; omega) ho
def laterB2 (ops : Array Oper) (m : Nat) : Bool := (List.range ops.size).all fun i => decide (i < m) || (List.range i).all fun j => if j < m then waits ops i j else (List.range i).any fun k => decide (j ≤ k) && waits ops i k
theorem laterB2_spec {m : Nat} (h : laterB2 ops m = true) (i j : Nat) (hm : m ≤ i) (hi : i < ops.size) (hj : j < i) : (j < m → waits ops i j = true) ∧ (m ≤ j → ∃ k, j ≤ k ∧ waits ops i k = true) := by
  have h1 := List.all_eq_true.1 h i (List.mem_range.2 hi)
  simp only [Bool.or_eq_true, decide_eq_true_eq] at h1
  rcases h1 with h1 | h1
  · omega
  · have h2 := List.all_eq_true.1 h1 j (List.mem_range.2 hj)
    constructor
    · intro hjm; rw [if_pos hjm] at h2; exact h2
    · intro hjm
      rw [if_neg (by omega), List.any_eq_true] at h2
      obtain ⟨k, _, hk⟩ := h2
      rw [Bool.and_eq_true, decide_eq_true_eq] at hk
      exact ⟨k, hk.1, hk.2⟩
theorem region_then (m : Nat) {id : Nat} {w : World} (later : laterB2 ops m = true) (hm : P.follows .mixedOrders = true) (hg : goodB ops a0.tmps.size = true) (hC : C false { w with drawn := w.drawn + 1 })
    (same : ∀ b w, C b w → G false w w) (keep : ∀ c b j w w' v, (c = true → b = false ∧ j ≠ e) → G c w w' → R b j w v → R (b || c) j w' v) (hem : e < m) (heo : e < ops.size)
    (h : ∀ x, PhObs P ops e C G T R vs x 0 (ops.toList.take m) a0)
    (fin : ∀ x w', C true w' → (∀ j p s, j < m → ops[j]? = some p → p.dst = some s → T.contains j = true → R true j w' (x j)) → wpList P ops Q (ops.toList.drop m) (lexAt T vs x 0 (ops.toList.take m) a0) w') :
    (Code.region id ops true).wp P Q a0 w := by
  have gd := good_of hg
  have hns : Region.noSelect ops = true := by unfold goodB at hg; rw [Bool.and_eq_true] at hg; exact hg.1
  have hl0 : ∀ j, j < (ops.toList.take m).length → (ops.toList.take m)[j]? = ops[0 + j]? := fun j hj => by rw [List.length_take] at hj; rw [List.getElem?_take_of_lt (by omega)]; simp
  have pre0 : ∀ x, Pre ops T vs x a0 0 a0 := fun x => ⟨rfl, rfl, fun j p s hj => absurd hj (Nat.not_lt_zero _), fun s _ => rfl⟩
  let V : Bool → Nat → World → Value → Prop := fun b i w v => if T.contains i = true then R b i w v else v = vs.getD i undef
  let xa : Act → Nat → Value := fun a j => match (ops[j]?).bind (·.dst) with | some d => at_ a d | none => undef
  have xa_at : ∀ (a : Act) j p s, ops[j]? = some p → p.dst = some s → xa a j = at_ a s := fun a j p s hp hs => by simp [xa, hp, hs]
  have L : Law m e P ops C G V a0 Q := by
    refine ⟨fun c b i w w' v hcb hgw hv => ?_, same, fun i b o a w him hie ho hc hsz hdf hdone hold => ?_⟩
    · simp only [V] at hv ⊢; split at hv
      · rw [if_pos (by assumption)]; exact keep c b i w w' v hcb hgw hv
      · rw [if_neg (by assumption)]; exact hv
    · obtain ⟨A, pA, ob⟩ := obs_get (x := xa a) gd (ops.toList.take m) 0 a0 hl0 (pre0 _) (h (xa a)) i o (Nat.zero_le _) (by have := (Array.getElem?_eq_some_iff.1 ho).1; rw [List.length_take, Array.length_toList]; omega) ho
      have seen : ∀ s ∈ o.looksAt ops, at_ a s = at_ A s := fun s hs => by
        by_cases hw : ∃ j, writer ops j s = true ∧ waits ops i j = true
        · obtain ⟨j, hj, hw⟩ := hw
          have hlt := gd.before i j (Array.getElem?_eq_some_iff.1 ho).1 hw
          unfold writer at hj
          cases hp : ops[j]? with
          | none => simp [hp] at hj
          | some p =>
            simp only [hp, beq_iff_eq] at hj
            rw [pA.done j p s hlt hp hj]
            have hv := hdone j p s hp hj hw
            simp only [V, val_] at hv ⊢
            split
            · exact (xa_at a j p s hp hj).symm
            · rename_i hn; rw [if_neg hn] at hv; exact hv
        · have hno : ∀ j, writer ops j s = true → waits ops i j = false := fun j hj => by
            cases hwj : waits ops i j with
            | false => rfl
            | true => exact absurd ⟨j, hj, hwj⟩ hw
          rw [hold s hs hno]
          refine (pA.old s (fun j hj => ?_)).symm
          cases hwr : writer ops j s with
          | false => rfl
          | true =>
            have hno' := hno j hwr
            unfold writer at hwr
            cases hp : ops[j]? with
            | none => simp [hp] at hwr
            | some p =>
              simp only [hp, beq_iff_eq] at hwr
              rcases gd.looks i j o p s ho hp (by omega) hs hwr with h1 | h1
              · rw [hno'] at h1; cases h1
              · have := gd.before j i (Array.getElem?_eq_some_iff.1 hp).1 h1; omega
      have hex : execOp a.eval o = execOp A.eval o := execOp_congr o (fun cs b => Region.noSelect_spec hns i o cs b ho) fun y hy => by
        cases y with
        | tmp t => exact seen t (List.mem_append_left _ (List.mem_filterMap.2 ⟨.tmp t, by simpa using hy, rfl⟩))
        | _ => rfl
      have hwt : Region.wanted o (yielded ops a.tmps) = Region.wanted o (yielded ops A.tmps) := by
        unfold Region.wanted
        cases hgd : o.guard with
        | none => rfl
        | some gw =>
          obtain ⟨g, want⟩ := gw
          have : yielded ops a.tmps g = yielded ops A.tmps g := by
            unfold yielded
            cases ht : (ops[g]?).bind (·.dst) with
            | none => rfl
            | some t =>
              have := tmps_at (by rw [hsz, pA.size]) t (seen t (List.mem_append_right _ (by simp [hgd, ht])))
              simp only [Option.bind_some, this]
          simp only [this]
      have o1 := ob b w hie hc (fun j p s hp hs ht hw => by
        have hv := hdone j p s hp hs hw
        simp only [V] at hv
        rw [if_pos ht] at hv
        rw [xa_at a j p s hp hs]; exact hv)
      rw [hwt]
      split
      · rename_i hw
        rw [if_pos hw, ← hex] at o1
        exact wp_of_res (K := fun v w' => C (b || i == e) w' ∧ G (i == e) w w' ∧ V (b || i == e) i w' v) o1
      · rename_i hw
        rw [if_neg hw] at o1
        refine ⟨o1.1, ?_⟩
        simp only [V]; rw [if_neg (by rw [o1.2.1]; decide)]; exact o1.2.2.symm
  refine wp_region_any hm (any_then (laterB2_spec later) gd L (fun listed a w' hall low hI => ?_) ops.size _ a0 _ (fun j _ => by simp [on_, Array.getD]) ⟨by simpa [on_, Array.getD] using hC, rfl, rfl, by simp, fun j p s _ _ hon => ?_, fun s _ => rfl, fun j k hon => ?_⟩ ?_)
  · have pe := pre_end (x := xa a) (T := T) (vs := vs) gd (ops.toList.take m) 0 a0 hl0 (pre0 _)
    rw [Nat.zero_add, List.length_take, Array.length_toList] at pe
    have heq : a = lexAt T vs (xa a) 0 (ops.toList.take m) a0 := by
      have ht : a.tmps = (lexAt T vs (xa a) 0 (ops.toList.take m) a0).tmps := by
        refine Array.ext_getElem? fun s => tmps_at (by rw [hI.size, pe.size]) s ?_
        by_cases hw : ∃ j, j < m ∧ writer ops j s = true
        · obtain ⟨j, hjm, hj⟩ := hw
          unfold writer at hj
          cases hp : ops[j]? with
          | none => simp [hp] at hj
          | some p =>
            simp only [hp, beq_iff_eq] at hj
            have hjl := (Array.getElem?_eq_some_iff.1 hp).1
            rw [pe.done j p s (by omega) hp hj]
            have hv := hI.done j p s hp hj (hall j hjm hjl)
            simp only [V, val_] at hv ⊢
            split
            · exact (xa_at a j p s hp hj).symm
            · rename_i hn; rw [if_neg hn] at hv; exact hv
        · have hno : ∀ j, j < m → writer ops j s = false := fun j hj => by
            cases hwj : writer ops j s with
            | false => rfl
            | true => exact absurd ⟨j, hj, hwj⟩ hw
          rw [hI.old s (fun j hj => low j (Nat.not_lt.1 fun hjm => by rw [hno j hjm] at hj; cases hj)), pe.old s (fun j hj => hno j (by omega))]
      have hd : a.defers = (lexAt T vs (xa a) 0 (ops.toList.take m) a0).defers := by rw [hI.defers, pe.defers]
      generalize lexAt T vs (xa a) 0 (ops.toList.take m) a0 = b at ht hd
      cases a; cases b; simp_all
    have hon_e : on_ listed e = true := hall e hem heo
    have fn := fin (xa a) w' (by rw [← hon_e]; exact hI.c) (fun j p s hjm hp hs ht => by
      have hv := hI.done j p s hp hs (hall j hjm (Array.getElem?_eq_some_iff.1 hp).1)
      simp only [V] at hv
      rw [if_pos ht] at hv
      rw [xa_at a j p s hp hs]; rw [hon_e] at hv; exact hv)
    rw [heq]; rw [← heq] at fn ⊢; exact fn
  · simp [on_, Array.getD] at hon
  · simp [on_, Array.getD] at hon
  · unfold left_; exact Nat.le_trans List.countP_le_length (by simp)
theorem ob_plain {x : Nat → Value} {k : Nat} {o : Oper} {a : Act} {v : Value} (hke : k ≠ e) (hw : Region.wanted o (yielded ops a.tmps) = true) (hT : T.contains k = false) (same : ∀ b w, C b w → G false w w) (hv : vs.getD k undef = v)
    (h : ∀ b w, C b w → (execOp a.eval o).run P w = .ok (.value v) w) : PhOb P ops e C G T R vs x k o a := fun b w _ hC _ => by
  have hn : (k == e) = false := by simpa using hke
  rw [if_pos hw, h b w hC, hT, hn, Bool.or_false]
  exact ⟨hC, same b w hC, hv.symm⟩
theorem ob_call {x : Nat → Value} {k : Nat} {o : Oper} {a : Act} {v : Value} (hke : k ≠ e) (hw : Region.wanted o (yielded ops a.tmps) = true) (hT : T.contains k = false) (hv : vs.getD k undef = v) (f : FuncId) (args : Array Value)
    (h : ∀ b w, C b w → (execOp a.eval o).run P w = .ok (.enter f args) w) (hc : ∀ b w, C b w → Calls P f args w (fun r w' => r = .returned v ∧ C b w' ∧ G false w w')) : PhOb P ops e C G T R vs x k o a := fun b w _ hC _ => by
  have hn : (k == e) = false := by simpa using hke
  rw [if_pos hw, h b w hC, hT, hn, Bool.or_false]
  exact (hc b w hC).mono fun r w' ⟨he, h1, h2⟩ => ⟨v, he, h1, h2, hv.symm⟩
theorem ob_token {x : Nat → Value} {k : Nat} {o : Oper} {a : Act} (hke : k ≠ e) (hw : Region.wanted o (yielded ops a.tmps) = true) (hT : T.contains k = true)
    (h : ∀ b w, C b w → ∃ v w', (execOp a.eval o).run P w = .ok (.value v) w' ∧ C b w' ∧ G false w w' ∧ R b k w' v) : PhOb P ops e C G T R vs x k o a := fun b w _ hC _ => by
  have hn : (k == e) = false := by simpa using hke
  obtain ⟨v, w', h1, h2, h3, h4⟩ := h b w hC
  rw [if_pos hw, h1, hT, hn, Bool.or_false]
  exact ⟨h2, h3, h4⟩
/-- the operation itself: it reads what token j is -/
theorem ob_event {x : Nat → Value} {o : Oper} {a : Act} (hw : Region.wanted o (yielded ops a.tmps) = true) (hT : T.contains e = true) (j : Nat) (p : Oper) (s : Tmp) (hp : ops[j]? = some p) (hs : p.dst = some s) (hj : T.contains j = true) (hwt : waits ops e j = true)
    (h : ∀ w, C false w → R false j w (x j) → ∃ v w', (execOp a.eval o).run P w = .ok (.value v) w' ∧ C true w' ∧ G true w w' ∧ R true e w' v) : PhOb P ops e C G T R vs x e o a := fun b w hb hC ht => by
  have hb := hb rfl
  subst hb
  obtain ⟨v, w', h1, h2, h3, h4⟩ := h w hC (ht j p s hp hs hj hwt)
  have hn : (e == e) = true := by simp
  rw [if_pos hw, h1, hT, hn, Bool.or_true]
  exact ⟨h2, h3, h4⟩
theorem ob_quiet {x : Nat → Value} {k : Nat} {o : Oper} {a : Act} {d : Tmp} (hke : k ≠ e) (hd : o.dst = some d) (hl : d < a.tmps.size) (hw : Region.wanted o (yielded ops a.tmps) = true) (hT : T.contains k = false) (same : ∀ b w, C b w → G false w w) (hn : ∀ ρ, ∃ m : Sem Value, execOp ρ o = (do pure (Next.value (← m))))
    (h : ∀ b, o.quiet P a (C b) (fun a' => at_ a' d = vs.getD k undef)) : PhOb P ops e C G T R vs x k o a := fun b w _ hC _ => by
  have hne : (k == e) = false := by simpa using hke
  rw [if_pos hw, hne, Bool.or_false]
  obtain ⟨v, h1, h2⟩ := h b
  rw [hd, at_put_same v hl] at h2
  have h3 := h1 w hC
  unfold Oper.quietAt at h3
  obtain ⟨m, hm⟩ := hn a.eval
  have hn' := no_enter (P := P) (w := w) m
  rw [← hm] at hn'
  generalize hr : (execOp a.eval o).run P w = r at h3
  cases r with
  | ok n w' =>
    cases n <;> simp only [Oper.quietUpon] at h3
    case value u => obtain ⟨rfl, rfl⟩ := h3; simp only [Res, hT]; exact ⟨hC, same _ _ hC, h2⟩
    case skip => obtain ⟨rfl, rfl⟩ := h3; simp only [Res, hT]; exact ⟨hC, same _ _ hC, h2⟩
    case enter f args => exact absurd hr (hn' f args w')
  | halt y w' => simp only [Oper.quietUpon] at h3
theorem obs_cons {x : Nat → Value} {k : Nat} {o : Oper} {l : List Oper} {a : Act} (u : Value) (hu : val_ T vs x k = u) (h : PhOb P ops e C G T R vs x k o a) (h' : PhObs P ops e C G T R vs x (k + 1) l (a.put o.dst u)) : PhObs P ops e C G T R vs x k (o :: l) a := by
  subst hu; exact ⟨h, h'⟩
end
end Go.Proofs.YtbloljikejinaaaW.PrintMore.AnyPhase
