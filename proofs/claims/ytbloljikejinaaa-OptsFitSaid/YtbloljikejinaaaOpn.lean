/- Arguments of any kind, read: what reads as data at a type is a value of the print's kinds ('Kd'), and fits. -/
import Derived.Test.YtbloljikejinaaaWMore
import Derived.ProofKit
import Derived.SizedLaws
import Derived.DataReads
import Derived.ChangeArms
set_option linter.unusedVariables false
namespace Go.Proofs.YtbloljikejinaaaW.PrintMore
open Go.RowKit Go.Proofs.YtbloljikejinaaaW.PrintWords
/-- What reads at type t is a value of kind d, and fits. -/
def Opens {α : Type} (P : Program) (t : TypeId) (d : Kd α) (fit : α → Prop) : Prop :=
  P.cellsOf t = d.sz ∧ ∀ (H : Type) (enc : TypeId × Value → H) (w : World) (base : Nat) (spare : Nat → Bool) (held : Bool) (fuel : Nat) (cs : List Value) (x : DataW H × List MemPlace),
    DataW.trod enc P w base spare held fuel t cs = some x → (∀ n ∈ x.1.weights P t, n ≤ reachBytes) → ∃ a : α, d.K w a cs ∧ fit a
theorem opens_int {P : Program} {t : TypeId} {k : IntKind} (ht : P.underlying t = some (.int k)) (hc : P.cellsOf t = 1) : Opens P t (Kd.int k) (fun a => (Lit.int k a).wf = true) := by
  refine ⟨hc, fun H enc w base spare held fuel cs x h _ => ?_⟩
  obtain ⟨n, rfl, rfl, hw⟩ := DataW.trod_int ht h
  exact ⟨n, rfl, hw⟩
theorem opens_bool {P : Program} {t : TypeId} (ht : P.underlying t = some .bool) (hc : P.cellsOf t = 1) : Opens P t Kd.bool (fun _ => True) := by
  refine ⟨hc, fun H enc w base spare held fuel cs x h _ => ?_⟩
  obtain ⟨b, rfl, rfl⟩ := DataW.trod_bool ht h
  exact ⟨b, rfl, trivial⟩
theorem opens_string {P : Program} {t : TypeId} (ht : P.underlying t = some .string) (hc : P.cellsOf t = 1) : Opens P t Kd.string (fun s => s.size ≤ 140737488351232) := by
  refine ⟨hc, fun H enc w base spare held fuel cs x h hw => ?_⟩
  obtain ⟨s, rfl, rfl, _⟩ := DataW.trod_string ht h
  refine ⟨s, rfl, ?_⟩
  have := hw s.data.toList.length (by simp [DataW.weights])
  rw [Array.length_toList] at this
  exact this
theorem addr_add_add (a : Addr) (m i : Nat) : (a.add m).add i = a.add (m + i) := by
  unfold Addr.add
  by_cases h1 : m = 0
  · subst h1; simp
  · by_cases h2 : i = 0
    · subst h2; simp [h1]
    · simp [h1, h2, Nat.add_assoc]
theorem weights_all {H : Type} {P : Program} {e : TypeId} : ∀ {l : List (DataW H)} {d : DataW H}, d ∈ l → ∀ n ∈ d.weights P e, n ∈ DataW.weightsAll P e l
  | [], _, hd, _, _ => by cases hd
  | d0 :: l, d, hd, n, hn => by
    simp only [DataW.weightsAll, List.mem_append]
    rcases List.mem_cons.1 hd with rfl | hd
    · exact .inl hn
    · exact .inr (weights_all hd n hn)
theorem pick_list {α β : Type} {R : β → α → Prop} : ∀ (l : List β), (∀ b ∈ l, ∃ a, R b a) → ∃ as : List α, as.length = l.length ∧ ∀ (i : Nat) (b : β), l[i]? = some b → ∃ a, as[i]? = some a ∧ R b a
  | [], _ => ⟨[], rfl, fun i b h => by simp at h⟩
  | b :: l, h => by
    obtain ⟨a, ha⟩ := h b List.mem_cons_self
    obtain ⟨as, hl, has⟩ := pick_list l (fun x hx => h x (List.mem_cons_of_mem _ hx))
    refine ⟨a :: as, by simp [hl], fun i x hx => ?_⟩
    cases i with
    | zero => simp at hx; subst hx; exact ⟨a, rfl, ha⟩
    | succ i => simp at hx; obtain ⟨y, hy, hr⟩ := has i x hx; exact ⟨y, by simpa using hy, hr⟩
theorem opens_slice {α : Type} {P : Program} {t e : TypeId} {d : Kd α} {fit : α → Prop} (bytes : Nat) (ht : P.underlying t = some (.slice e)) (hc : P.cellsOf t = 1) (hb : P.bytesOf e = bytes) (h0 : 0 < bytes) (he : Opens P e d fit) :
    Opens P t (Kd.slice e d) (fun l => l.length * bytes ≤ 140737488351232 ∧ ∀ x ∈ l, fit x) := by
  refine ⟨hc, fun H enc w base spare held fuel cs x h hw => ?_⟩
  rcases DataW.trod_slice ht h with ⟨rfl, rfl⟩ | ⟨a, len, cap, elems, rest, n, rfl, rfl, rfl, hbase, hl, hm, hlen, hel, hsp, hns⟩
  · exact ⟨[], ⟨none, 0, rfl, Nat.le_refl _, ⟨rfl, by simp, fun h => absurd h (by simp)⟩⟩, by simp, by simp⟩
  · have hwt := hw ((elems.map (·.1)).length + (rest.map (·.1)).length |>.mul (P.bytesOf e)) (by simp [DataW.weights, ht])
    have each : ∀ y ∈ elems, ∃ p : α × List Value, d.K w p.1 p.2 ∧ fit p.1 ∧ ∃ i, elems[i]? = some y ∧ w.cells? base (a.add (i * P.cellsOf e)) (P.cellsOf e) = some p.2 := by
      intro y hy
      obtain ⟨i, hi⟩ := List.getElem?_of_mem hy
      have hlt : i < len := by rw [← hlen]; exact (List.getElem?_eq_some_iff.1 hi).1
      have hb' := (hel i hlt).trans hi
      rw [Option.bind_eq_some_iff] at hb'
      obtain ⟨cs', hcs, hy'⟩ := hb'
      obtain ⟨z, hz, hfz⟩ := he.2 H enc w base spare held n cs' y hy' (fun m hm' => hw m (by
        simp only [DataW.weights, ht]
        exact List.mem_cons_of_mem _ (List.mem_append_left _ (weights_all (List.mem_map.2 ⟨y, hy, rfl⟩) m hm'))))
      exact ⟨(z, cs'), hz, hfz, i, hi, hcs⟩
    have pos : ∀ (i : Nat) (y : DataW H × List MemPlace), elems[i]? = some y → ∃ p : α × List Value, (d.K w p.1 p.2 ∧ fit p.1) ∧ w.cells? base (a.add (i * P.cellsOf e)) (P.cellsOf e) = some p.2 := by
      intro i y hi
      have hlt : i < len := by rw [← hlen]; exact (List.getElem?_eq_some_iff.1 hi).1
      have hb' := (hel i hlt).trans hi
      rw [Option.bind_eq_some_iff] at hb'
      obtain ⟨cs', hcs, hy'⟩ := hb'
      obtain ⟨z, hz, hfz⟩ := he.2 H enc w base spare held n cs' y hy' (fun m hm' => hw m (by
        simp only [DataW.weights, ht]
        exact List.mem_cons_of_mem _ (List.mem_append_left _ (weights_all (List.mem_map.2 ⟨y, List.mem_of_getElem? hi, rfl⟩) m hm'))))
      exact ⟨(z, cs'), ⟨hz, hfz⟩, hcs⟩
    obtain ⟨as, hal, has⟩ := pick_list (R := fun (iy : Nat × (DataW H × List MemPlace)) (z : α) => fit z ∧ ∃ c, d.K w z c ∧ w.cells? base (a.add (iy.1 * P.cellsOf e)) (P.cellsOf e) = some c)
      ((List.range len).zip elems) (by
        intro ⟨i, y⟩ hm'
        obtain ⟨j, hj⟩ := List.getElem?_of_mem hm'
        rw [List.getElem?_zip_eq_some] at hj
        obtain ⟨h1, h2⟩ := hj
        have hij : j = i := by
          rw [List.getElem?_eq_some_iff] at h1
          obtain ⟨_, h1⟩ := h1
          simpa using h1
        subst hij
        obtain ⟨p, ⟨hk, hf⟩, hcell⟩ := pos j y h2
        exact ⟨p.1, hf, p.2, hk, hcell⟩)
    have hal' : as.length = len := by rw [hal, List.length_zip, List.length_range, hlen, Nat.min_self]
    have hget : ∀ (j : Nat) (z : α), as[j]? = some z → fit z ∧ ∃ c, d.K w z c ∧ w.cells? base (a.add (j * P.cellsOf e)) (P.cellsOf e) = some c := by
      intro j z hz
      have hlt : j < len := by rw [← hal']; exact (List.getElem?_eq_some_iff.1 hz).1
      have hel' : elems[j]? = some (elems[j]'(by omega)) := List.getElem?_eq_getElem (by omega)
      obtain ⟨z', hz', hr⟩ := has j (j, elems[j]'(by omega)) (by rw [List.getElem?_zip_eq_some]; exact ⟨by simp [hlt], hel'⟩)
      rw [hz] at hz'
      obtain rfl := Option.some.inj hz'
      exact hr
    refine ⟨as, ⟨some a, cap, by rw [hal'], by omega, ⟨rfl, ?_, fun _ => ⟨a, rfl, fun j z hz => ?_⟩⟩⟩, ?_, ?_⟩
    · unfold maxLen at hm; omega
    · obtain ⟨_, c, hk, hcs⟩ := hget j z hz
      obtain ⟨_, hcl, hcc⟩ := World.cells?_some hcs
      refine ⟨c, by rw [hcl, he.1], hk, fun i u hu => ?_⟩
      have hi : i < c.length := (List.getElem?_eq_some_iff.1 hu).1
      have := hcc i (by omega)
      rw [hu] at this
      rw [he.1] at this
      rw [addr_add_add] at this
      exact this
    · rw [hb] at hwt
      simp only [List.length_map, hlen, Nat.mul_eq] at hwt
      have : len * bytes ≤ (len + rest.length) * bytes := Nat.mul_le_mul_right _ (by omega)
      rw [hal']
      exact Nat.le_trans this hwt
    · intro z hz
      obtain ⟨j, hj⟩ := List.getElem?_of_mem hz
      exact (hget j z hj).1
/-- Fields from offset o on, one behind the other. -/
def OpensF {α : Type} (P : Program) (o : Nat) (fs : List Field) (d : Kd α) (fit : α → Prop) : Prop :=
  ∀ (H : Type) (enc : TypeId × Value → H) (w : World) (base : Nat) (spare : Nat → Bool) (held : Bool) (n : Nat) (cs : List Value) (xs : List (DataW H × List MemPlace)),
    cs.length = d.sz → xs.length = fs.length → (∀ (i : Nat) (f : Field), fs[i]? = some f → DataW.trod enc P w base spare held n f.type ((cs.drop (f.offset - o)).take (P.cellsOf f.type)) = xs[i]?) →
    (∀ m ∈ DataW.weightsEach P (fs.map (·.type)) (xs.map (·.1)), m ≤ reachBytes) → ∃ a : α, d.K w a cs ∧ fit a
theorem opensF_one {α : Type} {P : Program} {o : Nat} {f : Field} {d : Kd α} {fit : α → Prop} (ho : f.offset = o) (h : Opens P f.type d fit) : OpensF P o [f] d fit := by
  intro H enc w base spare held n cs xs hcs hxs hr hw
  obtain ⟨x, rfl⟩ : ∃ x, xs = [x] := by
    match xs, hxs with
    | [x], _ => exact ⟨x, rfl⟩
  have h0 := hr 0 f rfl
  rw [ho, Nat.sub_self, List.drop_zero, h.1, ← hcs, List.take_length] at h0
  exact h.2 H enc w base spare held n cs x h0 (fun m hm => hw m (by simp [DataW.weightsEach, hm]))
theorem opensF_cons {α β : Type} {P : Program} {o o' : Nat} {f : Field} {fs : List Field} {a : Kd α} {b : Kd β} {fa : α → Prop} {fb : β → Prop} (ho : f.offset = o) (ho' : o' = o + a.sz) (hge : (fs.all fun g => decide (o' ≤ g.offset)) = true)
    (h : Opens P f.type a fa) (hs : OpensF P o' fs b fb) : OpensF P o (f :: fs) (Kd.pair a b) (fun x => fa x.1 ∧ fb x.2) := by
  intro H enc w base spare held n cs xs hcs hxs hr hw
  obtain ⟨x, xs, rfl⟩ : ∃ x ys, xs = x :: ys := by
    match xs, hxs with
    | x :: ys, _ => exact ⟨x, ys, rfl⟩
  have hcs' : cs.length = a.sz + b.sz := hcs
  have h0 := hr 0 f rfl
  rw [ho, Nat.sub_self, List.drop_zero, h.1] at h0
  obtain ⟨y, hy, hfy⟩ := h.2 H enc w base spare held n (cs.take a.sz) x h0 (fun m hm => hw m (by simp [DataW.weightsEach, hm]))
  obtain ⟨z, hz, hfz⟩ := hs H enc w base spare held n (cs.drop a.sz) xs (by rw [List.length_drop]; omega) (by simpa using hxs) (fun i g hg => by
    have h1 := hr (i + 1) g (by simpa using hg)
    have h2 := List.all_eq_true.1 hge g (List.mem_of_getElem? hg)
    have h3 : o' ≤ g.offset := by simpa using h2
    rw [List.drop_drop, show a.sz + (g.offset - o') = g.offset - o from by omega]
    simpa using h1) (fun m hm => hw m (by simp [DataW.weightsEach, hm]))
  exact ⟨(y, z), ⟨cs.take a.sz, cs.drop a.sz, (List.take_append_drop _ _).symm, hy, hz⟩, hfy, hfz⟩
theorem opens_struct {α β : Type} {P : Program} {t : TypeId} {fs : Array Field} {d : Kd α} {fit : α → Prop} {f : β → α} (ht : P.underlying t = some (.struct fs)) (hc : P.cellsOf t = d.sz) (g : α → β) (hg : ∀ y, f (g y) = y)
    (h : OpensF P 0 fs.toList d fit) : Opens P t (Kd.iso d f) (fun x => fit (f x)) := by
  refine ⟨hc, fun H enc w base spare held fuel cs x hx hw => ?_⟩
  obtain ⟨xs, n, rfl, rfl, hl, hlen, hf⟩ := DataW.trod_struct ht hx
  obtain ⟨y, hy, hfy⟩ := h H enc w base spare held n cs xs (hl.trans hc) (by simpa using hlen) (fun i f' hf' => by rw [Nat.sub_zero]; exact hf i f' (by simpa using hf')) (fun m hm => hw m (by simpa [DataW.weights, ht] using hm))
  exact ⟨g y, by show d.K w (f (g y)) cs; rw [hg]; exact hy, by show fit (f (g y)); rw [hg]; exact hfy⟩
/-- An argument that is a slice. -/
theorem arg_slice {α : Type} {P : Program} {t e : TypeId} {d : Kd α} {fit : List α → Prop} (ht : P.underlying t = some (.slice e)) (ho : Opens P t (Kd.slice e d) fit) {H : Type} {enc : TypeId × Value → H} {w : World} {r : Reach} {b0 base : Nat} {spare : Nat → Bool} {held : Bool}
    {v : Value} {x : DataW H} {p : List MemPlace} (hv : Value.okWide P w r b0 t v) (h : DataW.Trod enc P w base spare held t v x p) (hw : ∀ n ∈ x.weights P t, n ≤ reachBytes) :
    ∃ (A : Option Addr) (c : Nat) (l : List α), v = .slice A l.length c ∧ Kd.C d w A l.length l ∧ l.length ≤ c ∧ fit l := by
  obtain ⟨a, len, cap, rfl⟩ := Go.WideShapes.okWide_slice ht hv
  obtain ⟨fuel, hf⟩ := h
  obtain ⟨l, ⟨A, c, hcs, hlc, hC⟩, hfit⟩ := ho.2 H enc w base spare held fuel _ _ hf hw
  simp [Value.cells] at hcs
  obtain ⟨rfl, rfl, rfl⟩ := hcs
  exact ⟨a, cap, l, rfl, hC, hlc, hfit⟩
/-- An argument that is a struct. -/
theorem arg_struct {α : Type} {P : Program} {t : TypeId} {fs : Array Field} {d : Kd α} {fit : α → Prop} (ht : P.underlying t = some (.struct fs)) (ho : Opens P t d fit) {H : Type} {enc : TypeId × Value → H} {w : World} {r : Reach} {b0 base : Nat} {spare : Nat → Bool} {held : Bool}
    {v : Value} {x : DataW H} {p : List MemPlace} (hv : Value.okWide P w r b0 t v) (h : DataW.Trod enc P w base spare held t v x p) (hw : ∀ n ∈ x.weights P t, n ≤ reachBytes) :
    ∃ (a : α) (cs : List Value), v = .agg cs.toArray ∧ d.K w a cs ∧ fit a := by
  obtain ⟨cs, rfl, _⟩ := Go.WideShapes.okWide_struct ht hv
  obtain ⟨fuel, hf⟩ := h
  obtain ⟨a, hK, hfit⟩ := ho.2 H enc w base spare held fuel _ _ hf hw
  exact ⟨a, cs.toList, by simp, by simpa [Value.cells] using hK, hfit⟩
theorem weights_each_all {H : Type} {P : Program} {e : TypeId} : ∀ (ts : List TypeId) (l : List (DataW H)), (∀ t ∈ ts, t = e) → ts.length = l.length → DataW.weightsEach P ts l = DataW.weightsAll P e l
  | [], [], _, _ => rfl
  | t :: ts, d :: l, h, hl => by
    simp only [DataW.weightsEach, DataW.weightsAll]
    rw [h t List.mem_cons_self, weights_each_all ts l (fun x hx => h x (List.mem_cons_of_mem _ hx)) (by simpa using hl)]
/-- A field at a place. -/
abbrev fieldAt (t o : Nat) : Field := Field.mk "" t o false "" "" 0
/-- An array of n elements, as a struct of n fields. -/
theorem opens_array {α β : Type} {P : Program} {t e : TypeId} {n : Nat} {d : Kd α} {fit : α → Prop} {f : β → α} (fs : List Field) (ht : P.underlying t = some (.array n e)) (hc : P.cellsOf t = d.sz) (hn : fs.length = n)
    (hfs : (fs.zipIdx.all fun x => x.1.type == e && x.1.offset == x.2 * P.cellsOf e) = true) (g : α → β) (hg : ∀ y, f (g y) = y) (h : OpensF P 0 fs d fit) : Opens P t (Kd.iso d f) (fun x => fit (f x)) := by
  refine ⟨hc, fun H enc w base spare held fuel cs x hx hw => ?_⟩
  have hfs' : ∀ (i : Nat) (g' : Field), fs[i]? = some g' → g'.type = e ∧ g'.offset = i * P.cellsOf e := by
    intro i g' hg'
    have hm : (g', i) ∈ fs.zipIdx := by rw [List.mem_zipIdx_iff_getElem?]; exact hg'
    have := List.all_eq_true.1 hfs _ hm
    simpa using this
  cases fuel with
  | zero => simp [DataW.trod] at hx
  | succ m =>
    unfold DataW.trod at hx
    rw [ht] at hx
    simp only at hx
    split at hx
    · rename_i hl
      rw [Option.map_eq_some_iff] at hx
      obtain ⟨xs, hxs, rfl⟩ := hx
      have hlen : xs.length = n := by have := mapM_some_length hxs; simpa using this
      have hget : ∀ i, i < n → DataW.trod enc P w base spare held m e ((cs.drop (i * P.cellsOf e)).take (P.cellsOf e)) = xs[i]? := fun i hi => mapM_some_get hxs i i (by simp [hi])
      obtain ⟨y, hy, hfy⟩ := h H enc w base spare held m cs xs (hl.trans hc) (by rw [hlen, hn]) (fun i g' hg' => by
        obtain ⟨h1, h2⟩ := hfs' i g' hg'
        have hi : i < n := by rw [← hn]; exact (List.getElem?_eq_some_iff.1 hg').1
        rw [Nat.sub_zero, h1, h2]
        exact hget i hi) (fun q hq => hw q (by
        simp only [DataW.weights, ht]
        rw [weights_each_all (e := e) _ _ (by
          intro z hz
          obtain ⟨g', hg', rfl⟩ := List.mem_map.1 hz
          obtain ⟨i, hi⟩ := List.getElem?_of_mem hg'
          exact (hfs' i g' hi).1) (by simp [hlen, hn])] at hq
        exact hq))
      exact ⟨g y, by show d.K w (f (g y)) cs; rw [hg]; exact hy, by show fit (f (g y)); rw [hg]; exact hfy⟩
    · cases hx
/-- An argument that is an array. -/
theorem arg_array {α : Type} {P : Program} {t e : TypeId} {m : Nat} {d : Kd α} {fit : α → Prop} (ht : P.underlying t = some (.array m e)) (ho : Opens P t d fit) {H : Type} {enc : TypeId × Value → H} {w : World} {r : Reach} {b0 base : Nat} {spare : Nat → Bool} {held : Bool}
    {v : Value} {x : DataW H} {p : List MemPlace} (hv : Value.okWide P w r b0 t v) (h : DataW.Trod enc P w base spare held t v x p) (hw : ∀ n ∈ x.weights P t, n ≤ reachBytes) :
    ∃ (a : α) (cs : List Value), v = .agg cs.toArray ∧ d.K w a cs ∧ fit a := by
  simp only [Value.okWide, ht] at hv
  obtain ⟨cs, rfl, _⟩ := hv
  obtain ⟨fuel, hf⟩ := h
  obtain ⟨a, hK, hfit⟩ := ho.2 H enc w base spare held fuel _ _ hf hw
  exact ⟨a, cs.toList, by simp, by simpa [Value.cells] using hK, hfit⟩
end Go.Proofs.YtbloljikejinaaaW.PrintMore
