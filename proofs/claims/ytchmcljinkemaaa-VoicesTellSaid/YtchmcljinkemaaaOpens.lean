/- Arguments of any kind that the print knows, opened: what can be read as data is told by a value of the print's kinds ('Kd'), well formed, and not too long. Over any program. -/
import Derived.Deep.Slices
import Derived.ChangeArms
import Derived.Deep.Fields
import Derived.SizedLaws
import Derived.Test.YtchmcljinkemaaaWWords
namespace Go.Proofs.Ytchmcljinkemaaa.Opens
open Go.RowKit Go.Proofs.YtchmcljinkemaaaW.PrintWords Go.Deep Go.ChangeShapes Go.WideShapes

section
variable {H : Type} {enc : TypeId × Value → H} {P : Program} {W : World}

/-- Whatever reads at type t tells a value of the kind d that is well formed. -/
def Rdb (enc : TypeId × Value → H) (P : Program) (W : World) {α : Type} (d : Kd α) (t : TypeId) (wf : α → Prop) : Prop :=
  ∀ (fuel : Nat) (cs : List Value) (x : DataW H × List MemPlace), DataW.trod enc P W 0 (fun _ => true) true fuel t cs = some x → (∀ n ∈ x.1.weights P t, n ≤ reachBytes) → ∃ v, d.K W v cs ∧ wf v

theorem Rdb.int {t : TypeId} {k : IntKind} (ht : P.underlying t = some (.int k)) : Rdb enc P W (Kd.int k) t (fun n => (Lit.int k n).wf = true) := by
  intro fuel cs x h _
  obtain ⟨n, rfl, _, hw⟩ := DataW.trod_int ht h
  exact ⟨n, rfl, hw⟩
theorem Rdb.bool {t : TypeId} (ht : P.underlying t = some .bool) : Rdb enc P W Kd.bool t (fun _ => True) := by
  intro fuel cs x h _
  obtain ⟨b, rfl, _⟩ := DataW.trod_bool ht h
  exact ⟨b, rfl, trivial⟩
theorem Rdb.string {t : TypeId} (ht : P.underlying t = some .string) : Rdb enc P W Kd.string t (fun s => s.size ≤ 140737488351232) := by
  intro fuel cs x h hs
  obtain ⟨s, rfl, rfl, _⟩ := DataW.trod_string ht h
  refine ⟨s, rfl, ?_⟩
  have := hs s.data.toList.length (by simp [DataW.weights])
  simpa [reachBytes] using this
theorem weightsAll_mem {e : TypeId} : ∀ {l : List (DataW H)} {d : DataW H}, d ∈ l → ∀ n ∈ d.weights P e, n ∈ DataW.weightsAll P e l
  | a :: r, d, hd, n, hn => by
    simp only [DataW.weightsAll, List.mem_append]
    rcases List.mem_cons.1 hd with rfl | hd
    · exact Or.inl hn
    · exact Or.inr (weightsAll_mem hd n hn)
theorem choose_list {α : Type} {Q : Nat → α → Prop} : ∀ (n : Nat), (∀ i, i < n → ∃ v, Q i v) → ∃ l : List α, l.length = n ∧ ∀ i v, l[i]? = some v → Q i v
  | 0, _ => ⟨[], rfl, fun i v h => by simp at h⟩
  | n + 1, h => by
    obtain ⟨l, hl, hq⟩ := choose_list n (fun i hi => h i (by omega))
    obtain ⟨v, hv⟩ := h n (by omega)
    refine ⟨l ++ [v], by simp [hl], fun i u hu => ?_⟩
    by_cases hi : i < n
    · rw [List.getElem?_append_left (by omega)] at hu
      exact hq i u hu
    · rw [List.getElem?_append_right (by omega), hl] at hu
      have h0 : i - n = 0 := by
        rcases Nat.eq_zero_or_pos (i - n) with h | h
        · exact h
        · rw [List.getElem?_eq_none (by simp; omega)] at hu
          cases hu
      rw [h0] at hu
      obtain rfl : v = u := by simpa using hu
      obtain rfl : i = n := by omega
      exact hv
theorem cells?_at {w : World} {a : Addr} {n : Nat} {cs : List Value} (h : w.cells? 0 a n = some cs) : cs.length = n ∧ ∀ i u, cs[i]? = some u → w.cell? (a.add i) = some u := by
  obtain ⟨_, hl, hc⟩ := World.cells?_some h
  refine ⟨hl, fun i u hu => ?_⟩
  have hi : i < cs.length := (List.getElem?_eq_some_iff.1 hu).1
  exact (hc i (by omega)).trans hu
theorem Rdb.slice {α : Type} {d : Kd α} {t e : TypeId} {wf : α → Prop} (b : Nat) (ht : P.underlying t = some (.slice e)) (hb : P.bytesOf e = b) (hc : P.cellsOf e = d.sz) (he : Rdb enc P W d e wf) :
    Rdb enc P W (Kd.slice e d) t (fun l => l.length ≤ 9223372036854775807 ∧ l.length * b ≤ 140737488351232 ∧ ∀ x ∈ l, wf x) := by
  intro fuel cs x h hs
  rcases open_slice ht h with ⟨rfl, rfl⟩ | ⟨a, len, cap, m, n, D, Pl, rfl, _, hl, hm, hmm, rfl, hi⟩
  · exact ⟨[], ⟨none, 0, rfl, Nat.le_refl _, ⟨rfl, by simp, fun h => absurd h (by simp)⟩⟩, by simp, by simp, by simp⟩
  · have hm' : m = cap := by simpa using hmm
    subst hm'
    have each : ∀ i, i < len → ∃ v : α, (∃ cs', W.cells? 0 (a.add (i * d.sz)) d.sz = some cs' ∧ d.K W v cs') ∧ wf v := by
      intro i hil
      obtain ⟨cs', h1, h2⟩ := hi i (by omega)
      obtain ⟨v, h3, h4⟩ := he n cs' _ h2 (by
        intro q hq
        refine hs q ?_
        simp only [DataW.weights, ht, List.mem_cons, List.mem_append]
        exact Or.inr (Or.inl (weightsAll_mem (List.mem_map.2 ⟨i, List.mem_range.2 hil, rfl⟩) q hq)))
      rw [hc] at h1
      exact ⟨v, ⟨cs', h1, h3⟩, h4⟩
    obtain ⟨l, hll, hq⟩ := choose_list len each
    have hlm : len ≤ 9223372036854775807 := by simp only [maxLen] at hm; omega
    refine ⟨l, ⟨some a, m, by rw [hll], by omega, ⟨rfl, by omega, fun _ => ⟨a, rfl, fun j p hp => ?_⟩⟩⟩, by omega, ?_, fun x hx => ?_⟩
    · obtain ⟨⟨cs', h1, h2⟩, _⟩ := hq j p hp
      obtain ⟨g1, g2⟩ := cells?_at h1
      refine ⟨cs', g1, h2, fun i u hu => ?_⟩
      rw [← Go.Deep.add_add]
      exact g2 i u hu
    · have := hs _ (by simp only [DataW.weights, ht, List.mem_cons]; exact Or.inl rfl)
      simp only [List.length_map, List.length_range, hb, reachBytes] at this
      refine Nat.le_trans (Nat.mul_le_mul_right b (show l.length ≤ len + (m - len) by omega)) (by omega)
    · obtain ⟨i, hi2, rfl⟩ := List.mem_iff_getElem.1 hx
      exact (hq i _ (List.getElem?_eq_getElem hi2)).2

/-- The fields of a struct, from the cell 'off' on. -/
def RdbF (enc : TypeId × Value → H) (P : Program) (W : World) {α : Type} (fs : List Field) (off : Nat) (d : Kd α) (wf : α → Prop) : Prop :=
  ∀ (n : Nat) (cs : List Value), cs.length = off + d.sz → (∀ f ∈ fs, ∃ y : DataW H × List MemPlace, DataW.trod enc P W 0 (fun _ => true) true n f.type ((cs.drop f.offset).take (P.cellsOf f.type)) = some y ∧ ∀ q ∈ y.1.weights P f.type, q ≤ reachBytes) →
    ∃ v, d.K W v (cs.drop off) ∧ wf v
theorem RdbF.one {α : Type} {d : Kd α} {f : Field} {off : Nat} {wf : α → Prop} (ho : f.offset = off) (hc : P.cellsOf f.type = d.sz) (h : Rdb enc P W d f.type wf) : RdbF enc P W [f] off d wf := by
  intro n cs hl hf
  obtain ⟨y, h1, h2⟩ := hf f (by simp)
  obtain ⟨v, h3, h4⟩ := h n _ y h1 h2
  refine ⟨v, ?_, h4⟩
  rw [ho, hc, List.take_of_length_le (by rw [List.length_drop]; omega)] at h3
  exact h3
theorem RdbF.cons {α β : Type} {d : Kd α} {b : Kd β} {f : Field} {fs : List Field} {off off' : Nat} {wf : α → Prop} {wb : β → Prop} (ho : f.offset = off) (hc : P.cellsOf f.type = d.sz) (hoff : off + d.sz = off')
    (h : Rdb enc P W d f.type wf) (hr : RdbF enc P W fs off' b wb) : RdbF enc P W (f :: fs) off (Kd.pair d b) (fun x => wf x.1 ∧ wb x.2) := by
  subst hoff
  intro n cs hl hf
  have hsz : (Kd.pair d b).sz = d.sz + b.sz := rfl
  obtain ⟨y, h1, h2⟩ := hf f (by simp)
  obtain ⟨v, h3, h4⟩ := h n _ y h1 h2
  obtain ⟨u, h5, h6⟩ := hr n cs (by omega) (fun g hg => hf g (by simp [hg]))
  refine ⟨(v, u), ⟨(cs.drop off).take d.sz, cs.drop (off + d.sz), ?_, by rw [ho, hc] at h3; exact h3, h5⟩, h4, h6⟩
  rw [← List.drop_drop, List.take_append_drop]
theorem weightsEach_mem {fs : List Field} : ∀ {xs : List (DataW H × List MemPlace)} {j : Nat} {f : Field} {y : DataW H × List MemPlace}, fs[j]? = some f → xs[j]? = some y → ∀ n ∈ y.1.weights P f.type, n ∈ DataW.weightsEach P (fs.map (·.type)) (xs.map (·.1)) := by
  intro xs j f y hf hy n hn
  exact DataW.weights_mem_each (j := j) (t := f.type) (d := y.1) (by rw [List.getElem?_map, hf]; rfl) (by rw [List.getElem?_map, hy]; rfl) n hn
theorem Rdb.struct {α β : Type} {d : Kd α} {t : TypeId} {fs : Array Field} {wf : α → Prop} (f : β → α) (g : α → β) (hfg : ∀ x, f (g x) = x) (ht : P.underlying t = some (.struct fs)) (hc : P.cellsOf t = d.sz) (h : RdbF enc P W fs.toList 0 d wf) :
    Rdb enc P W (Kd.iso d f) t (fun x => wf (f x)) := by
  intro fuel cs x hx hs
  obtain ⟨xs, n, _, rfl, hl, hlen, hg⟩ := DataW.trod_struct ht hx
  obtain ⟨v, h1, h2⟩ := h n cs (by omega) (fun fd hfd => by
    obtain ⟨j, hj, hje⟩ := List.mem_iff_getElem.1 hfd
    have hj1 : fs.toList[j]? = some fd := by rw [List.getElem?_eq_getElem hj, hje]
    have hj2 : fs[j]? = some fd := by simpa using hj1
    have hx1 : xs[j]? = some (xs[j]'(by rw [hlen]; simpa using hj)) := List.getElem?_eq_getElem _
    refine ⟨_, (hg j fd hj2).trans hx1, fun q hq => hs q ?_⟩
    simp only [DataW.weights, ht]
    exact weightsEach_mem hj1 hx1 q hq)
  refine ⟨g v, ?_, by show wf (f (g v)); rw [hfg]; exact h2⟩
  show d.K W (f (g v)) cs
  rw [hfg]
  exact h1
theorem Rdb.wf {α : Type} {d : Kd α} {t : TypeId} {wf wf' : α → Prop} (h : Rdb enc P W d t wf) (hw : ∀ x, wf x → wf' x) : Rdb enc P W d t wf' := by
  intro fuel cs x hx hs
  obtain ⟨v, h1, h2⟩ := h fuel cs x hx hs
  exact ⟨v, h1, hw v h2⟩
/-- An argument. -/
theorem Rdb.arg {α : Type} {d : Kd α} {t : TypeId} {wf : α → Prop} (h : Rdb enc P W d t wf) {ts : List TypeId} {ds : List (DataW H)} (hsz : (DataW.weightsEach P ts ds).all (· ≤ reachBytes) = true) (j : Nat) {v : Value} {D : DataW H} {p : List MemPlace}
    (ht : ts[j]? = some t) (hd : ds[j]? = some D) (hT : DataW.Trod enc P W 0 (fun _ => true) true t v D p) : ∃ x, d.K W x v.cells.toList ∧ wf x := by
  obtain ⟨fuel, hf⟩ := hT
  refine h fuel _ _ hf fun n hn => ?_
  have := List.all_eq_true.1 hsz n (DataW.weights_mem_each ht hd n hn)
  simpa using this
end
end Go.Proofs.Ytchmcljinkemaaa.Opens
