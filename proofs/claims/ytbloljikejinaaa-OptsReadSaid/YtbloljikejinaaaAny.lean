/- A region that draws its order, walked once: each operation's value under a law that lasts as the world goes on, whatever order comes up. -/
import Derived.Test.YtbloljikejinaaaWMore
import Derived.Still
import Derived.BigQuiet
set_option linter.unusedVariables false
namespace Go.Proofs.YtbloljikejinaaaW.PrintMore.AnyOrder
open Go Go.RowKit Go.Proofs.YtbloljikejinaaaW.PrintWords
/-- slot s of a frame -/
def at_ (a : Act) (s : Tmp) : Value := a.tmps.getD s undef
theorem at_put_same {a : Act} {s : Tmp} (v : Value) (h : s < a.tmps.size) : at_ (a.put (some s) v) s = v := by
  simp [at_, Act.put, Array.getD, h]
theorem at_put_other {a : Act} {s d : Tmp} (v : Value) (h : d ≠ s) : at_ (a.put (some d) v) s = at_ a s := by
  simp [at_, Act.put, Array.getD_eq_getD_getElem?, Array.getElem?_setIfInBounds_ne h]
theorem size_put (a : Act) (d : Option Tmp) (v : Value) : (a.put d v).tmps.size = a.tmps.size := by cases d <;> simp [Act.put]
theorem defers_put (a : Act) (d : Option Tmp) (v : Value) : (a.put d v).defers = a.defers := by cases d <;> rfl
/-- who writes slot s -/
def writer (ops : Array Oper) (i : Nat) (s : Tmp) : Bool := match ops[i]? with | some o => o.dst == some s | none => false
def waits (ops : Array Oper) (j i : Nat) : Bool := match ops[j]? with | some o => o.after.any (fun e => Region.binds .any e && e.on == i) | none => false
/-- what may be looked at as an operation comes up: each slot that it looks at is written by one that it waits for, or by none, or by one that waits for it -/
def goodB (ops : Array Oper) (n : Nat) : Bool :=
  Region.noSelect ops &&
  (List.range ops.size).all fun i => match ops[i]? with
    | none => true
    | some o => o.after.all (fun e => decide (e.on < i)) &&
      (match o.dst with | some d => decide (d < n) | none => true) &&
      (List.range ops.size).all (fun j => j == i || (match ops[j]? with
        | none => true
        | some p => (match o.dst with | some d => p.dst != some d | none => true) &&
            ((o.looksAt ops).all fun s => p.dst != some s || waits ops i j || waits ops j i)))
structure Law (m : Nat) (P : Program) (ops : Array Oper) (C : World → Prop) (G : World → World → Prop) (V : Nat → World → Value → Prop) (a0 : Act) (Q : Exit → Act → World → Prop) : Prop where
  keep : ∀ i w w' v, G w w' → V i w v → V i w' v
  same : ∀ w, C w → G w w
  step : ∀ i o a w, i < m → ops[i]? = some o → C w → a.tmps.size = a0.tmps.size → a.defers = a0.defers →
    (∀ j p s, ops[j]? = some p → p.dst = some s → waits ops i j = true → V j w (at_ a s)) →
    (∀ s, s ∈ o.looksAt ops → (∀ j, writer ops j s = true → waits ops i j = false) → at_ a s = at_ a0 s) →
    if Region.wanted o (yielded ops a.tmps) = true then o.wp P a w (fun a' w' => ∃ v, a' = a.put o.dst v ∧ C w' ∧ G w w' ∧ V i w' v) Q else V i w undef
def on_ (listed : Array Bool) (j : Nat) : Bool := listed.getD j false
theorem on_set_same {listed : Array Bool} {i : Nat} (h : i < listed.size) : on_ (listed.setIfInBounds i true) i = true := by simp [on_, Array.getD, h]
theorem on_set_other {listed : Array Bool} {i j : Nat} (h : i ≠ j) : on_ (listed.setIfInBounds i true) j = on_ listed j := by
  simp [on_, Array.getD_eq_getD_getElem?, Array.getElem?_setIfInBounds_ne h]
/-- how many have not come up -/
def left_ (n : Nat) (listed : Array Bool) : Nat := (List.range n).countP fun j => !on_ listed j
theorem countP_less {α : Type} {p q : α → Bool} : ∀ (l : List α), (∀ x ∈ l, q x = true → p x = true) → (∃ x ∈ l, p x = true ∧ q x = false) → l.countP q < l.countP p
  | [], _, ⟨_, h, _⟩ => by cases h
  | x :: l, hm, ⟨y, hy, h1, h2⟩ => by
    have hle : l.countP q ≤ l.countP p := List.countP_mono_left fun z hz => hm z (List.mem_cons_of_mem _ hz)
    rcases List.mem_cons.1 hy with rfl | hy
    · rw [List.countP_cons, List.countP_cons, h1, h2]; simp; omega
    · have := countP_less l (fun z hz => hm z (List.mem_cons_of_mem _ hz)) ⟨y, hy, h1, h2⟩
      rw [List.countP_cons, List.countP_cons]
      have hx := hm x List.mem_cons_self
      cases hq : q x <;> cases hp : p x <;> simp_all <;> omega
section
variable {P : Program} {ops : Array Oper} {C : World → Prop} {G : World → World → Prop} {V : Nat → World → Value → Prop} {a0 : Act} {Q : Exit → Act → World → Prop}
structure Inv (ops : Array Oper) (C : World → Prop) (V : Nat → World → Value → Prop) (a0 : Act) (listed : Array Bool) (a : Act) (w : World) : Prop where
  c : C w
  size : a.tmps.size = a0.tmps.size
  defers : a.defers = a0.defers
  long : listed.size = ops.size
  done : ∀ j p s, ops[j]? = some p → p.dst = some s → on_ listed j = true → V j w (at_ a s)
  old : ∀ s, (∀ j, writer ops j s = true → on_ listed j = false) → at_ a s = at_ a0 s
  shut : ∀ j k, on_ listed j = true → waits ops j k = true → on_ listed k = true
theorem ready_spec {listed : Array Bool} {i : Nat} (hl : listed.size = ops.size) : i ∈ Region.ready .any ops listed ↔ i < ops.size ∧ on_ listed i = false ∧ ∀ k, waits ops i k = true → on_ listed k = true := by
  rw [mem_ready]
  constructor
  · rintro ⟨h1, o, ho, h2⟩
    have hi := (Array.getElem?_eq_some_iff.1 ho).1
    refine ⟨hi, ?_, fun k hk => ?_⟩
    · unfold on_; simp only [Array.getD, hl, hi, dif_pos] at h1 ⊢; exact h1
    · simp only [waits, ho] at hk
      obtain ⟨e, he, hb⟩ := Array.any_eq_true'.1 hk
      simp only [Bool.and_eq_true, beq_iff_eq] at hb
      have := h2 e he hb.1
      rw [hb.2] at this
      exact this
  · rintro ⟨hi, h1, h2⟩
    refine ⟨?_, ops[i], Array.getElem?_eq_getElem hi, fun e he hb => h2 e.on ?_⟩
    · unfold on_ at h1; simp only [Array.getD, hl, hi, dif_pos] at h1 ⊢; exact h1
    · simp only [waits, Array.getElem?_eq_getElem hi]
      exact Array.any_eq_true'.2 ⟨e, he, by simp [hb]⟩
structure Good (ops : Array Oper) (n : Nat) : Prop where
  before : ∀ i k, i < ops.size → waits ops i k = true → k < i
  within : ∀ (i : Nat) (o : Oper) (d : Tmp), ops[i]? = some o → o.dst = some d → d < n
  apart : ∀ (i j : Nat) (o p : Oper) (d : Tmp), ops[i]? = some o → ops[j]? = some p → j ≠ i → o.dst = some d → p.dst ≠ some d
  looks : ∀ (i j : Nat) (o p : Oper) (s : Tmp), ops[i]? = some o → ops[j]? = some p → j ≠ i → s ∈ o.looksAt ops → p.dst = some s → waits ops i j = true ∨ waits ops j i = true
theorem good_of {n : Nat} (h : goodB ops n = true) : Good ops n := by
  unfold goodB at h
  rw [Bool.and_eq_true] at h
  have h2 := fun i (hi : i < ops.size) => List.all_eq_true.1 h.2 i (List.mem_range.2 hi)
  have lt : ∀ {i o}, ops[i]? = some o → i < ops.size := fun ho => (Array.getElem?_eq_some_iff.1 ho).1
  refine ⟨fun i k hi hk => ?_, fun i o d ho hd => ?_, fun i j o p d ho hp hne hd => ?_, fun i j o p s ho hp hne hs hd => ?_⟩
  · have h3 := h2 i hi
    simp only [Array.getElem?_eq_getElem hi, Bool.and_eq_true] at h3
    simp only [waits, Array.getElem?_eq_getElem hi] at hk
    obtain ⟨e, he, hb⟩ := Array.any_eq_true'.1 hk
    simp only [Bool.and_eq_true, beq_iff_eq] at hb
    have := Array.all_eq_true'.1 h3.1.1 e he
    rw [← hb.2]; exact of_decide_eq_true this
  · have h3 := h2 i (lt ho)
    simp only [ho, hd, Bool.and_eq_true] at h3
    exact of_decide_eq_true h3.1.2
  · have h3 := h2 i (lt ho)
    simp only [ho, hd, Bool.and_eq_true] at h3
    have h4 := List.all_eq_true.1 h3.2 j (List.mem_range.2 (lt hp))
    simp only [hp, beq_iff_eq, hne, Bool.or_eq_true, Bool.and_eq_true, false_or, bne_iff_ne] at h4
    exact h4.1
  · have h3 := h2 i (lt ho)
    simp only [ho, Bool.and_eq_true] at h3
    have h4 := List.all_eq_true.1 h3.2 j (List.mem_range.2 (lt hp))
    simp only [hp, beq_iff_eq, hne, Bool.or_eq_true, Bool.and_eq_true, false_or, List.all_eq_true] at h4
    rcases h4.2 s hs with (h5 | h5) | h5
    · simp [hd] at h5
    · exact .inl h5
    · exact .inr h5
theorem inv_step {n m : Nat} (gd : Good ops a0.tmps.size) (L : Law m P ops C G V a0 Q) {listed : Array Bool} {a : Act} {w w' : World} {i : Nat} {o : Oper} {v : Value}
    (h : Inv ops C V a0 listed a w) (ho : ops[i]? = some o) (hi : i < ops.size) (hr : ∀ k, waits ops i k = true → on_ listed k = true) (hc : C w') (hg : G w w') (hv : V i w' v) :
    Inv ops C V a0 (listed.setIfInBounds i true) (a.put o.dst v) w' := by
  have hl : i < listed.size := by rw [h.long]; exact hi
  have up : ∀ k, on_ listed k = true → on_ (listed.setIfInBounds i true) k = true := fun k hk => by
    by_cases e : i = k
    · subst e; exact on_set_same hl
    · rw [on_set_other e]; exact hk
  refine ⟨hc, by rw [size_put, h.size], by rw [defers_put, h.defers], by simp [h.long], fun j p s hp hs hon => ?_, fun s hs => ?_, fun j k hj hk => ?_⟩
  · by_cases e : i = j
    · subst e
      obtain rfl : o = p := by rw [ho] at hp; exact Option.some.inj hp
      rw [hs, at_put_same v (by rw [h.size]; exact gd.within i o s ho hs)]
      exact hv
    · rw [on_set_other e] at hon
      have h1 := L.keep j w w' _ hg (h.done j p s hp hs hon)
      have : at_ (a.put o.dst v) s = at_ a s := by
        cases hd : o.dst with
        | none => rfl
        | some d => exact at_put_other v (fun e' => gd.apart i j o p d ho hp (Ne.symm e) hd (by rw [hs, e']))
      rw [this]; exact h1
  · have : at_ (a.put o.dst v) s = at_ a s := by
      cases hd : o.dst with
      | none => rfl
      | some d =>
        refine at_put_other v (fun e' => ?_)
        have h1 := hs i (by simp [writer, ho, hd, e'])
        rw [on_set_same hl] at h1
        cases h1
    rw [this]
    refine h.old s (fun j hj => ?_)
    have h1 := hs j hj
    by_cases e : i = j
    · subst e; rw [on_set_same hl] at h1; cases h1
    · rwa [on_set_other e] at h1
  · by_cases e : i = j
    · subst e; exact up k (hr k hk)
    · rw [on_set_other e] at hj
      exact up k (h.shut j k hj hk)
/-- what comes behind all others goes in the order of the text -/
theorem row_then {m : Nat} (later : ∀ i j, m ≤ i → i < ops.size → j < i → waits ops i j = true) (gd : Good ops a0.tmps.size) :
    ∀ (fuel n : Nat) (listed : Array Bool) (a : Act) (w : World), m ≤ n → listed.size = ops.size → (∀ j, j < ops.size → (on_ listed j = true ↔ j < n)) → left_ ops.size listed ≤ fuel → wpList P ops Q (ops.toList.drop n) a w → wpAny P .any ops Q fuel listed a w := by
  have ends : ∀ (n : Nat) (listed : Array Bool) (a : Act) (w : World), listed.size = ops.size → (∀ j, j < ops.size → (on_ listed j = true ↔ j < n)) → ops.size ≤ n → wpList P ops Q (ops.toList.drop n) a w → Region.ready .any ops listed = [] ∧ Q .normal a w := by
    intro n listed a w hs ho hn h
    refine ⟨?_, ?_⟩
    · cases hr : Region.ready .any ops listed with
      | nil => rfl
      | cons i l =>
        obtain ⟨hi, hoff, _⟩ := (ready_spec hs).1 (show i ∈ Region.ready .any ops listed by rw [hr]; exact List.mem_cons_self)
        rw [(ho i hi).2 (by omega)] at hoff; cases hoff
    · rw [List.drop_of_length_le (by simpa using hn)] at h; exact h
  intro fuel
  induction fuel with
  | zero =>
    intro n listed a w hmn hs ho hf h
    refine ends n listed a w hs ho ?_ h
    refine Nat.not_lt.1 (fun hlt => ?_)
    have hoff : on_ listed n = false := by
      cases hb : on_ listed n with
      | false => rfl
      | true => have := (ho n hlt).1 hb; omega
    have : 0 < left_ ops.size listed := List.countP_pos_iff.2 ⟨n, List.mem_range.2 hlt, by simp [hoff]⟩
    omega
  | succ fuel ih =>
    intro n listed a w hmn hs ho hf h
    by_cases hlt : n < ops.size
    · have hoff : on_ listed n = false := by
        cases hb : on_ listed n with
        | false => rfl
        | true => have := (ho n hlt).1 hb; omega
      refine ⟨fun h0 => ?_, fun i hi => ?_⟩
      · have : n ∈ Region.ready .any ops listed := (ready_spec hs).2 ⟨hlt, hoff, fun k hk => (ho k (by have := gd.before n k hlt hk; omega)).2 (gd.before n k hlt hk)⟩
        rw [h0] at this; cases this
      · obtain ⟨hi, hoi, hr⟩ := (ready_spec hs).1 hi
        have hin : i = n := by
          refine Nat.le_antisymm (Nat.not_lt.1 fun hni => ?_) (Nat.not_lt.1 fun hni => ?_)
          · rw [hr n (later i n (by omega) hi hni)] at hoff; cases hoff
          · rw [(ho i hi).2 hni] at hoi; cases hoi
        subst hin
        have hg : ops[i]? = some ops[i] := Array.getElem?_eq_getElem hi
        have hd : ops.toList.drop i = ops[i] :: ops.toList.drop (i + 1) := by
          rw [List.drop_eq_getElem_cons (by simpa using hi)]; simp
        rw [hd] at h
        have h1 : wpOp P ops Q i (wpList P ops Q (ops.toList.drop (i + 1))) a w := by unfold wpOp; rw [hg]; exact h
        refine wpOp_mono (fun a' w' h' => ih (i + 1) _ a' w' (by omega) (by simpa using hs) (fun j hj => ?_) ?_ h') h1
        · by_cases e : i = j
          · subst e; rw [on_set_same (by omega)]; simp
          · rw [on_set_other e, ho j hj]; omega
        · have := countP_less (p := fun j => !on_ listed j) (q := fun j => !on_ (listed.setIfInBounds i true) j) (List.range ops.size) (fun j _ hj => by
            by_cases e : i = j
            · subst e; simp [hoff]
            · rwa [on_set_other e] at hj) ⟨i, List.mem_range.2 hi, by simp [hoff], by simp [on_set_same (show i < listed.size by omega)]⟩
          unfold left_ at hf ⊢; omega
    · obtain ⟨h0, hq⟩ := ends n listed a w hs ho (by omega) h
      exact ⟨fun _ => hq, fun i hi => by rw [h0] at hi; cases hi⟩
theorem any_then {m : Nat} (later : ∀ i j, m ≤ i → i < ops.size → j < i → waits ops i j = true) (gd : Good ops a0.tmps.size) (L : Law m P ops C G V a0 Q) (fin : ∀ listed a w, (∀ j, j < m → j < ops.size → on_ listed j = true) → (∀ j, m ≤ j → on_ listed j = false) → Inv ops C V a0 listed a w → wpList P ops Q (ops.toList.drop m) a w) :
    ∀ (fuel : Nat) (listed : Array Bool) (a : Act) (w : World), (∀ j, m ≤ j → on_ listed j = false) → Inv ops C V a0 listed a w → left_ ops.size listed ≤ fuel → wpAny P .any ops Q fuel listed a w := by
  have least : ∀ (m : Nat) (listed : Array Bool), listed.size = ops.size → m < ops.size → on_ listed m = false → ∃ k, k ∈ Region.ready .any ops listed := by
    intro m
    induction m using Nat.strongRecOn with
    | _ m ih =>
      intro listed hl hm hoff
      by_cases hall : ∀ k, waits ops m k = true → on_ listed k = true
      · exact ⟨m, (ready_spec hl).2 ⟨hm, hoff, hall⟩⟩
      · obtain ⟨k, hk⟩ := Classical.not_forall.1 hall
        obtain ⟨hk1, hk2⟩ := Classical.not_imp.1 hk
        have := gd.before m k hm hk1
        exact ih k this listed hl (by omega) (by simpa using hk2)
  have over : ∀ (fuel : Nat) (listed : Array Bool) (a : Act) (w : World), (∀ j, m ≤ j → on_ listed j = false) → Inv ops C V a0 listed a w → left_ ops.size listed ≤ fuel → (∀ j, j < m → j < ops.size → on_ listed j = true) → wpAny P .any ops Q fuel listed a w := by
    intro fuel listed a w low h hf hall
    refine row_then later gd fuel m listed a w (Nat.le_refl _) h.long (fun j hj => ⟨fun hon => Nat.not_le.1 fun hmj => ?_, fun hjm => hall j hjm hj⟩) hf (fin listed a w hall low h)
    rw [low j hmj] at hon; cases hon
  intro fuel
  induction fuel with
  | zero =>
    intro listed a w low h hf
    refine over 0 listed a w low h hf (fun j hj hjs => ?_)
    cases hb : on_ listed j with
    | true => rfl
    | false =>
      have : 0 < left_ ops.size listed := List.countP_pos_iff.2 ⟨j, List.mem_range.2 hjs, by simp [hb]⟩
      omega
  | succ fuel ih =>
    intro listed a w low h hf
    by_cases hall : ∀ j, j < m → j < ops.size → on_ listed j = true
    · exact over (fuel + 1) listed a w low h hf hall
    obtain ⟨q, hq⟩ := Classical.not_forall.1 hall
    obtain ⟨hq1, hq⟩ := Classical.not_imp.1 hq
    obtain ⟨hq2, hq⟩ := Classical.not_imp.1 hq
    have hq3 : on_ listed q = false := by simpa using hq
    refine ⟨fun h0 => ?_, fun i hi => ?_⟩
    · obtain ⟨k, hk⟩ := least q listed h.long hq2 hq3
      rw [h0] at hk; cases hk
    obtain ⟨hi, hoff, hr⟩ := (ready_spec h.long).1 hi
    have him : i < m := Nat.not_le.1 fun hmi => by rw [hr q (later i q hmi hi (by omega))] at hq3; cases hq3
    have ho : ops[i]? = some ops[i] := Array.getElem?_eq_getElem hi
    have low' : ∀ j, m ≤ j → on_ (listed.setIfInBounds i true) j = false := fun j hj => by rw [on_set_other (by omega)]; exact low j hj
    have less : left_ ops.size (listed.setIfInBounds i true) ≤ fuel := by
      have := countP_less (p := fun j => !on_ listed j) (q := fun j => !on_ (listed.setIfInBounds i true) j) (List.range ops.size) (fun j _ hj => by
        by_cases e : i = j
        · subst e; simp [hoff]
        · rwa [on_set_other e] at hj) ⟨i, List.mem_range.2 hi, by simp [hoff], by simp [on_set_same (show i < listed.size by rw [h.long]; exact hi)]⟩
      unfold left_ at hf ⊢; omega
    have st := L.step i ops[i] a w him ho h.c h.size h.defers (fun j p s hp hs hw => h.done j p s hp hs (hr j hw)) (fun s hs hno => h.old s (fun j hj => by
      by_cases e : j = i
      · subst e; exact hoff
      · unfold writer at hj
        cases hp : ops[j]? with
        | none => simp [hp] at hj
        | some p =>
          simp only [hp, beq_iff_eq] at hj
          rcases gd.looks i j _ p s ho hp e hs hj with h1 | h1
          · have := hno j (by simp [writer, hp, hj]); rw [this] at h1; cases h1
          · by_cases hon : on_ listed j = true
            · have := h.shut j i hon h1; rw [hoff] at this; cases this
            · simpa using hon))
    unfold wpOp
    rw [ho]
    dsimp only
    split
    · rename_i hw
      rw [if_pos hw] at st
      refine .inl (Oper.wp_mono (fun a' w' hh => ?_) st)
      obtain ⟨v, rfl, hc, hg, hv⟩ := hh
      exact ih _ _ _ low' (inv_step (n := 0) gd L h ho hi hr hc hg hv) less
    · rename_i hw
      rw [if_neg hw] at st
      exact ih _ _ _ low' (inv_step (n := 0) gd L h ho hi hr h.c (L.same w h.c) st) less
end
/-! #### the walk in the order of the text -/
def Res (P : Program) (K : Value → World → Prop) : Result Next → Prop
  | .ok (.value v) w' => K v w'
  | .ok .skip w' => K undef w'
  | .ok (.enter f args) w' => Calls P f args w' (fun e w'' => ∃ v, e = .returned v ∧ K v w'')
  | _ => False
theorem wp_of_res {P : Program} {o : Oper} {a : Act} {w : World} {K : Value → World → Prop} {Q : Exit → Act → World → Prop} (h : Res P K ((execOp a.eval o).run P w)) : o.wp P a w (fun a' w' => ∃ v, a' = a.put o.dst v ∧ K v w') Q := by
  unfold Oper.wp
  generalize (execOp a.eval o).run P w = r at *
  cases r with
  | ok n w' =>
    cases n <;> simp only [Res] at h <;> simp only [Oper.upon]
    case value u => exact ⟨_, rfl, h⟩
    case skip => exact ⟨_, rfl, h⟩
    case enter f args => exact h.mono fun e w'' ⟨v, he, hk⟩ => by subst he; exact ⟨_, rfl, hk⟩
  | halt x w' => simp only [Res] at h
/-- what the tokens (operations whose values hang on the order) and the others hand on -/
def val_ (T : List Nat) (vs : List Value) (x : Nat → Value) (k : Nat) : Value := if T.contains k then x k else vs.getD k undef
def lexAt (T : List Nat) (vs : List Value) (x : Nat → Value) : Nat → List Oper → Act → Act
  | _, [], a => a
  | k, o :: l, a => lexAt T vs x (k + 1) l (a.put o.dst (val_ T vs x k))
section
variable (P : Program) (ops : Array Oper) (C : World → Prop) (G : World → World → Prop) (T : List Nat) (R : Nat → World → Value → Prop) (vs : List Value) (x : Nat → Value)
def Ob (k : Nat) (o : Oper) (a : Act) : Prop :=
  ∀ w, C w → (∀ j p s, ops[j]? = some p → p.dst = some s → T.contains j = true → waits ops k j = true → R j w (x j)) →
    if Region.wanted o (yielded ops a.tmps) = true then Res P (fun v w' => C w' ∧ G w w' ∧ if T.contains k = true then R k w' v else v = vs.getD k undef) ((execOp a.eval o).run P w) else T.contains k = false ∧ vs.getD k undef = undef
def Obs : Nat → List Oper → Act → Prop
  | _, [], _ => True
  | k, o :: l, a => Ob P ops C G T R vs x k o a ∧ Obs (k + 1) l (a.put o.dst (val_ T vs x k))
structure Pre (a0 : Act) (k : Nat) (a : Act) : Prop where
  size : a.tmps.size = a0.tmps.size
  defers : a.defers = a0.defers
  done : ∀ j p s, j < k → ops[j]? = some p → p.dst = some s → at_ a s = val_ T vs x j
  old : ∀ s, (∀ j, j < k → writer ops j s = false) → at_ a s = at_ a0 s
end
section
variable {P : Program} {ops : Array Oper} {C : World → Prop} {G : World → World → Prop} {T : List Nat} {R : Nat → World → Value → Prop} {vs : List Value} {x : Nat → Value} {a0 : Act} {Q : Exit → Act → World → Prop}
theorem pre_next (gd : Good ops a0.tmps.size) {k : Nat} {a : Act} {o : Oper} (h : Pre ops T vs x a0 k a) (ho : ops[k]? = some o) : Pre ops T vs x a0 (k + 1) (a.put o.dst (val_ T vs x k)) := by
  refine ⟨by rw [size_put, h.size], by rw [defers_put, h.defers], fun j p s hj hp hs => ?_, fun s hs => ?_⟩
  · by_cases e : j = k
    · subst e
      obtain rfl : o = p := by rw [ho] at hp; exact Option.some.inj hp
      rw [hs, at_put_same _ (by rw [h.size]; exact gd.within j o s ho hs)]
    · have : at_ (a.put o.dst (val_ T vs x k)) s = at_ a s := by
        cases hd : o.dst with
        | none => rfl
        | some d => exact at_put_other _ (fun e' => gd.apart k j o p d ho hp e hd (by rw [hs, e']))
      rw [this]; exact h.done j p s (by omega) hp hs
  · have : at_ (a.put o.dst (val_ T vs x k)) s = at_ a s := by
      cases hd : o.dst with
      | none => rfl
      | some d =>
        refine at_put_other _ (fun e' => ?_)
        have h1 := hs k (by omega)
        simp [writer, ho, hd, e'] at h1
    rw [this]; exact h.old s (fun j hj => hs j (by omega))
theorem pre_end (gd : Good ops a0.tmps.size) : ∀ (l : List Oper) (k : Nat) (a : Act), (∀ j, j < l.length → l[j]? = ops[k + j]?) → Pre ops T vs x a0 k a → Pre ops T vs x a0 (k + l.length) (lexAt T vs x k l a)
  | [], k, a, _, h => h
  | o :: l, k, a, hl, h => by
    have := pre_end gd l (k + 1) _ (fun j hj => by have := hl (j + 1) (by simpa using hj); simpa [Nat.add_assoc, Nat.add_comm 1 j] using this) (pre_next gd h (by simpa using (hl 0 (by simp)).symm))
    rw [List.length_cons, show k + (l.length + 1) = k + 1 + l.length from by omega]
    exact this
theorem obs_get (gd : Good ops a0.tmps.size) : ∀ (l : List Oper) (k : Nat) (a : Act), (∀ j, j < l.length → l[j]? = ops[k + j]?) → Pre ops T vs x a0 k a → Obs P ops C G T R vs x k l a →
    ∀ i o, k ≤ i → i < k + l.length → ops[i]? = some o → ∃ A, Pre ops T vs x a0 i A ∧ Ob P ops C G T R vs x i o A
  | [], k, a, hl, h, _, i, o, hk, hi, ho => by simp at hi; omega
  | q :: l, k, a, hl, h, hO, i, o, hk, hi, ho => by
    by_cases e : k = i
    · subst e
      have : q = o := by have := hl 0 (by simp); rw [Nat.add_zero, ho] at this; exact Option.some.inj this
      subst this
      exact ⟨a, h, hO.1⟩
    · exact obs_get gd l (k + 1) _ (fun j hj => by have := hl (j + 1) (by simpa using hj); simpa [Nat.add_assoc, Nat.add_comm 1 j] using this) (pre_next gd h (by simpa using (hl 0 (by simp)).symm)) hO.2 i o (by omega) (by simp at hi; omega) ho
theorem tmps_at {a b : Act} (hs : a.tmps.size = b.tmps.size) (t : Nat) (h : at_ a t = at_ b t) : a.tmps[t]? = b.tmps[t]? := by
  unfold at_ at h
  by_cases ht : t < a.tmps.size
  · have ht' : t < b.tmps.size := by omega
    simp only [Array.getD, ht, ht', dif_pos] at h
    rw [Array.getElem?_eq_getElem ht, Array.getElem?_eq_getElem ht']; exact congrArg some h
  · rw [Array.getElem?_eq_none (by omega), Array.getElem?_eq_none (by omega)]
def laterB (ops : Array Oper) (m : Nat) : Bool := (List.range ops.size).all fun i => decide (i < m) || (List.range i).all fun j => waits ops i j
theorem laterB_spec {m : Nat} (h : laterB ops m = true) (i j : Nat) (hm : m ≤ i) (hi : i < ops.size) (hj : j < i) : waits ops i j = true := by
  have h1 := List.all_eq_true.1 h i (List.mem_range.2 hi)
  simp only [Bool.or_eq_true, decide_eq_true_eq] at h1
  rcases h1 with h1 | h1
  · omega
  · exact List.all_eq_true.1 h1 j (List.mem_range.2 hj)
/-- **A region that draws its order, by one walk in the order of the text**; what waits for all ahead of it (from m on) goes on as a row. -/
theorem region_then (m : Nat) {id : Nat} {w : World} (later : laterB ops m = true) (hm : P.follows .mixedOrders = true) (hg : goodB ops a0.tmps.size = true) (hC : C { w with drawn := w.drawn + 1 })
    (same : ∀ w, C w → G w w) (keep : ∀ i w w' v, G w w' → R i w v → R i w' v)
    (h : ∀ x, Obs P ops C G T R vs x 0 (ops.toList.take m) a0)
    (fin : ∀ x w', C w' → (∀ j p s, j < m → ops[j]? = some p → p.dst = some s → T.contains j = true → R j w' (x j)) → wpList P ops Q (ops.toList.drop m) (lexAt T vs x 0 (ops.toList.take m) a0) w') :
    (Code.region id ops true).wp P Q a0 w := by
  have gd := good_of hg
  have hns : Region.noSelect ops = true := by unfold goodB at hg; rw [Bool.and_eq_true] at hg; exact hg.1
  have hl0 : ∀ j, j < (ops.toList.take m).length → (ops.toList.take m)[j]? = ops[0 + j]? := fun j hj => by rw [List.length_take] at hj; rw [List.getElem?_take_of_lt (by omega)]; simp
  have pre0 : ∀ x, Pre ops T vs x a0 0 a0 := fun x => ⟨rfl, rfl, fun j p s hj => absurd hj (Nat.not_lt_zero _), fun s _ => rfl⟩
  let V : Nat → World → Value → Prop := fun i w v => if T.contains i = true then R i w v else v = vs.getD i undef
  let xa : Act → Nat → Value := fun a j => match (ops[j]?).bind (·.dst) with | some d => at_ a d | none => undef
  have xa_at : ∀ (a : Act) j p s, ops[j]? = some p → p.dst = some s → xa a j = at_ a s := fun a j p s hp hs => by simp [xa, hp, hs]
  have L : Law m P ops C G V a0 Q := by
    refine ⟨fun i w w' v hgw hv => ?_, same, fun i o a w him ho hc hsz hdf hdone hold => ?_⟩
    · simp only [V] at hv ⊢; split at hv
      · rw [if_pos (by assumption)]; exact keep i w w' v hgw hv
      · rw [if_neg (by assumption)]; exact hv
    · obtain ⟨A, pA, ob⟩ := obs_get (x := xa a) gd (ops.toList.take m) 0 a0 hl0 (pre0 _) (h (xa a)) i o (Nat.zero_le _) (by have := (Array.getElem?_eq_some_iff.1 ho).1; rw [List.length_take, Array.length_toList]; omega) ho
      have seen : ∀ s ∈ o.looksAt ops, at_ a s = at_ A s := fun s hs => by
        by_cases hw : ∃ j, writer ops j s = true ∧ waits ops i j = true
        · obtain ⟨j, hj, hw⟩ := hw
          have hlt := gd.before i j (Array.getElem?_eq_some_iff.1 ho).1 hw
          unfold writer at hj
          cases hp : ops[j]? with
          | none => simp [hp] at hj
          | some p =>
            simp only [hp, beq_iff_eq] at hj
            rw [pA.done j p s hlt hp hj]
            have hv := hdone j p s hp hj hw
            simp only [V, val_] at hv ⊢
            split
            · exact (xa_at a j p s hp hj).symm
            · rename_i hn; rw [if_neg hn] at hv; exact hv
        · have hno : ∀ j, writer ops j s = true → waits ops i j = false := fun j hj => by
            cases hwj : waits ops i j with
            | false => rfl
            | true => exact absurd ⟨j, hj, hwj⟩ hw
          rw [hold s hs hno]
          refine (pA.old s (fun j hj => ?_)).symm
          cases hwr : writer ops j s with
          | false => rfl
          | true =>
            have hno' := hno j hwr
            unfold writer at hwr
            cases hp : ops[j]? with
            | none => simp [hp] at hwr
            | some p =>
              simp only [hp, beq_iff_eq] at hwr
              rcases gd.looks i j o p s ho hp (by omega) hs hwr with h1 | h1
              · rw [hno'] at h1; cases h1
              · have := gd.before j i (Array.getElem?_eq_some_iff.1 hp).1 h1; omega
      have hex : execOp a.eval o = execOp A.eval o := execOp_congr o (fun cs b => Region.noSelect_spec hns i o cs b ho) fun y hy => by
        cases y with
        | tmp t => exact seen t (List.mem_append_left _ (List.mem_filterMap.2 ⟨.tmp t, by simpa using hy, rfl⟩))
        | _ => rfl
      have hwt : Region.wanted o (yielded ops a.tmps) = Region.wanted o (yielded ops A.tmps) := by
        unfold Region.wanted
        cases hgd : o.guard with
        | none => rfl
        | some gw =>
          obtain ⟨g, want⟩ := gw
          have : yielded ops a.tmps g = yielded ops A.tmps g := by
            unfold yielded
            cases ht : (ops[g]?).bind (·.dst) with
            | none => rfl
            | some t =>
              have := tmps_at (by rw [hsz, pA.size]) t (seen t (List.mem_append_right _ (by simp [hgd, ht])))
              simp only [Option.bind_some, this]
          simp only [this]
      have o1 := ob w hc (fun j p s hp hs ht hw => by
        have hv := hdone j p s hp hs hw
        simp only [V] at hv
        rw [if_pos ht] at hv
        rw [xa_at a j p s hp hs]; exact hv)
      rw [hwt]
      split
      · rename_i hw
        rw [if_pos hw, ← hex] at o1
        exact wp_of_res (K := fun v w' => C w' ∧ G w w' ∧ V i w' v) o1
      · rename_i hw
        rw [if_neg hw] at o1
        simp only [V]; rw [if_neg (by rw [o1.1]; decide)]; exact o1.2.symm
  refine wp_region_any hm (any_then (laterB_spec later) gd L (fun listed a w' hall low hI => ?_) ops.size _ a0 _ (fun j _ => by simp [on_, Array.getD]) ⟨hC, rfl, rfl, by simp, fun j p s _ _ hon => ?_, fun s _ => rfl, fun j k hon => ?_⟩ ?_)
  · have pe := pre_end (x := xa a) (T := T) (vs := vs) gd (ops.toList.take m) 0 a0 hl0 (pre0 _)
    rw [Nat.zero_add, List.length_take, Array.length_toList] at pe
    have heq : a = lexAt T vs (xa a) 0 (ops.toList.take m) a0 := by
      have ht : a.tmps = (lexAt T vs (xa a) 0 (ops.toList.take m) a0).tmps := by
        refine Array.ext_getElem? fun s => tmps_at (by rw [hI.size, pe.size]) s ?_
        by_cases hw : ∃ j, j < m ∧ writer ops j s = true
        · obtain ⟨j, hjm, hj⟩ := hw
          unfold writer at hj
          cases hp : ops[j]? with
          | none => simp [hp] at hj
          | some p =>
            simp only [hp, beq_iff_eq] at hj
            have hjl := (Array.getElem?_eq_some_iff.1 hp).1
            rw [pe.done j p s (by omega) hp hj]
            have hv := hI.done j p s hp hj (hall j hjm hjl)
            simp only [V, val_] at hv ⊢
            split
            · exact (xa_at a j p s hp hj).symm
            · rename_i hn; rw [if_neg hn] at hv; exact hv
        · have hno : ∀ j, j < m → writer ops j s = false := fun j hj => by
            cases hwj : writer ops j s with
            | false => rfl
            | true => exact absurd ⟨j, hj, hwj⟩ hw
          rw [hI.old s (fun j hj => low j (Nat.not_lt.1 fun hjm => by rw [hno j hjm] at hj; cases hj)), pe.old s (fun j hj => hno j (by omega))]
      have hd : a.defers = (lexAt T vs (xa a) 0 (ops.toList.take m) a0).defers := by rw [hI.defers, pe.defers]
      generalize lexAt T vs (xa a) 0 (ops.toList.take m) a0 = b at ht hd
      cases a; cases b; simp_all
    have fn := fin (xa a) w' hI.c (fun j p s hjm hp hs ht => by
      have hv := hI.done j p s hp hs (hall j hjm (Array.getElem?_eq_some_iff.1 hp).1)
      simp only [V] at hv
      rw [if_pos ht] at hv
      rw [xa_at a j p s hp hs]; exact hv)
    rw [heq]; rw [← heq] at fn ⊢; exact fn
  · simp [on_, Array.getD] at hon
  · simp [on_, Array.getD] at hon
  · unfold left_; exact Nat.le_trans List.countP_le_length (by simp)
/-- **A region that draws its order, by one walk in the order of the text.** -/
theorem region_each {id : Nat} {w : World} (hm : P.follows .mixedOrders = true) (hg : goodB ops a0.tmps.size = true) (hC : C { w with drawn := w.drawn + 1 })
    (same : ∀ w, C w → G w w) (keep : ∀ i w w' v, G w w' → R i w v → R i w' v)
    (h : ∀ x, Obs P ops C G T R vs x 0 ops.toList a0)
    (fin : ∀ x w', C w' → (∀ j p s, ops[j]? = some p → p.dst = some s → T.contains j = true → R j w' (x j)) → Q .normal (lexAt T vs x 0 ops.toList a0) w') :
    (Code.region id ops true).wp P Q a0 w := by
  have ht : ops.toList.take ops.size = ops.toList := List.take_of_length_le (by simp)
  refine region_then ops.size (List.all_eq_true.2 fun i hi => by simp [List.mem_range.1 hi]) hm hg hC same keep (fun x => by rw [ht]; exact h x) (fun x w' hC hR => ?_)
  rw [ht, List.drop_of_length_le (by simp)]
  exact fin x w' hC fun j p s hp hs hT => hR j p s (Array.getElem?_eq_some_iff.1 hp).1 hp hs hT
theorem ob_plain {x : Nat → Value} {k : Nat} {o : Oper} {a : Act} {v : Value} (hw : Region.wanted o (yielded ops a.tmps) = true) (hT : T.contains k = false) (same : ∀ w, C w → G w w) (hv : vs.getD k undef = v)
    (h : ∀ w, C w → (execOp a.eval o).run P w = .ok (.value v) w) : Ob P ops C G T R vs x k o a := fun w hC _ => by
  rw [if_pos hw, h w hC, hT]
  exact ⟨hC, same w hC, hv.symm⟩
theorem ob_call {x : Nat → Value} {k : Nat} {o : Oper} {a : Act} {v : Value} (hw : Region.wanted o (yielded ops a.tmps) = true) (hT : T.contains k = false) (hv : vs.getD k undef = v) (f : FuncId) (args : Array Value)
    (h : ∀ w, C w → (execOp a.eval o).run P w = .ok (.enter f args) w) (hc : ∀ w, C w → Calls P f args w (fun e w' => e = .returned v ∧ C w' ∧ G w w')) : Ob P ops C G T R vs x k o a := fun w hC _ => by
  rw [if_pos hw, h w hC, hT]
  exact (hc w hC).mono fun e w' ⟨he, h1, h2⟩ => ⟨v, he, h1, h2, hv.symm⟩
theorem ob_token {x : Nat → Value} {k : Nat} {o : Oper} {a : Act} (hw : Region.wanted o (yielded ops a.tmps) = true) (hT : T.contains k = true)
    (h : ∀ w, C w → ∃ v w', (execOp a.eval o).run P w = .ok (.value v) w' ∧ C w' ∧ G w w' ∧ R k w' v) : Ob P ops C G T R vs x k o a := fun w hC _ => by
  obtain ⟨v, w', h1, h2, h3, h4⟩ := h w hC
  rw [if_pos hw, h1, hT]
  exact ⟨h2, h3, h4⟩
theorem ob_reads {x : Nat → Value} {k : Nat} {o : Oper} {a : Act} {v : Value} (j : Nat) (p : Oper) (s : Tmp) (hp : ops[j]? = some p) (hs : p.dst = some s) (hj : T.contains j = true) (hwt : waits ops k j = true)
    (hw : Region.wanted o (yielded ops a.tmps) = true) (hT : T.contains k = false) (same : ∀ w, C w → G w w) (hv : vs.getD k undef = v)
    (h : ∀ w, C w → R j w (x j) → (execOp a.eval o).run P w = .ok (.value v) w) : Ob P ops C G T R vs x k o a := fun w hC ht => by
  rw [if_pos hw, h w hC (ht j p s hp hs hj hwt), hT]
  exact ⟨hC, same w hC, hv.symm⟩
theorem no_enter {P : Program} {w : World} (m : Sem Value) : ∀ f args w', (do pure (Next.value (← m)) : Sem Next).run P w ≠ .ok (.enter f args) w' := by
  intro f args w' h
  rw [Sem.run_bind] at h
  cases hr : m.run P w with
  | ok v w1 => rw [hr] at h; simp at h
  | halt y w1 => rw [hr] at h; simp at h
theorem ob_quiet {x : Nat → Value} {k : Nat} {o : Oper} {a : Act} {d : Tmp} (hd : o.dst = some d) (hl : d < a.tmps.size) (hw : Region.wanted o (yielded ops a.tmps) = true) (hT : T.contains k = false) (same : ∀ w, C w → G w w) (hn : ∀ ρ, ∃ m : Sem Value, execOp ρ o = (do pure (Next.value (← m))))
    (h : o.quiet P a C (fun a' => at_ a' d = vs.getD k undef)) : Ob P ops C G T R vs x k o a := fun w hC _ => by
  rw [if_pos hw]
  obtain ⟨v, h1, h2⟩ := h
  rw [hd, at_put_same v hl] at h2
  have h3 := h1 w hC
  unfold Oper.quietAt at h3
  obtain ⟨m, hm⟩ := hn a.eval
  have hn' := no_enter (P := P) (w := w) m
  rw [← hm] at hn'
  generalize hr : (execOp a.eval o).run P w = r at h3
  cases r with
  | ok n w' =>
    cases n <;> simp only [Oper.quietUpon] at h3
    case value u => obtain ⟨rfl, rfl⟩ := h3; simp only [Res, hT]; exact ⟨hC, same _ hC, h2⟩
    case skip => obtain ⟨rfl, rfl⟩ := h3; simp only [Res, hT]; exact ⟨hC, same _ hC, h2⟩
    case enter f args => exact absurd hr (hn' f args w')
  | halt y w' => simp only [Oper.quietUpon] at h3
theorem obs_cons {x : Nat → Value} {k : Nat} {o : Oper} {l : List Oper} {a : Act} (u : Value) (hu : val_ T vs x k = u) (h : Ob P ops C G T R vs x k o a) (h' : Obs P ops C G T R vs x (k + 1) l (a.put o.dst u)) : Obs P ops C G T R vs x k (o :: l) a := by
  subst hu; exact ⟨h, h'⟩
theorem lexAt_cons {x : Nat → Value} {k : Nat} {o : Oper} {l : List Oper} {a : Act} (u : Value) (hu : val_ T vs x k = u) : lexAt T vs x k (o :: l) a = lexAt T vs x (k + 1) l (a.put o.dst u) := by subst hu; rfl
theorem lexAt_nil {x : Nat → Value} {k : Nat} {a : Act} : lexAt T vs x k [] a = a := rfl
theorem end_cons {F : Act → Prop} {x : Nat → Value} {k : Nat} {o : Oper} {l : List Oper} {a : Act} (u : Value) (hu : val_ T vs x k = u) (h : F (lexAt T vs x (k + 1) l (a.put o.dst u))) : F (lexAt T vs x k (o :: l) a) := by subst hu; exact h
end
/-- a row of bytes, made in this very region -/
def RowAt (l : List Int) (w : World) (v : Value) : Prop := ∃ g, v = .slice (some ⟨g, 0, none⟩) l.length l.length ∧ g < w.heap.size ∧ ∀ j, j < l.length → w.cell? ⟨g, 0 + j, none⟩ = some (.int .u8 (l.getD j 0))
theorem RowAt.keep {l : List Int} {w w' : World} {v : Value} (hb : Below w.heap.size w w') : RowAt l w v → RowAt l w' v := fun ⟨g, h1, h2, h3⟩ =>
  ⟨g, h1, Nat.lt_of_lt_of_le h2 hb.size, fun j hj => (hb.cell (p := ⟨g, 0 + j, none⟩) h2).trans (h3 j hj)⟩
theorem row_cell (W : World) (l : List Int) (e : TypeId) (j : Nat) (hj : j < l.length) : (W.alloc (.cells (l.map (Value.int .u8)).toArray e)).cell? ⟨W.heap.size, 0 + j, none⟩ = some (.int .u8 (l.getD j 0)) := by
  have h : (W.alloc (.cells (l.map (Value.int .u8)).toArray e)).heap[W.heap.size]? = some (.cells (l.map (Value.int .u8)).toArray e) := Array.getElem?_push_size
  unfold World.cell?
  rw [h, Nat.zero_add]
  simp [List.getD, hj]
theorem blk_same {w : World} {g : Nat} {t : TypeId} {cs : Array Value} (h : w.heap[g]? = some (.cells cs t (0, 0))) (i : Nat) (u : Value) (e : cs.setIfInBounds i u = cs) : (w.setCell ⟨g, i, none⟩ u).heap[g]? = some (.cells cs t (0, 0)) := blk_put h i u e
theorem run_conv {P : Program} {ρ : Operand → Value} {o : Oper} {f t : TypeId} {y : Operand} {v z : Value} {w : World} (ho : o.op = .convert f t y) (hz : ρ y = z) (h : (convert f t z).run P w = .ok v w) : (execOp ρ o).run P w = .ok (.value v) w := by
  subst hz; simp [execOp, ho, h]
end Go.Proofs.YtbloljikejinaaaW.PrintMore.AnyOrder
