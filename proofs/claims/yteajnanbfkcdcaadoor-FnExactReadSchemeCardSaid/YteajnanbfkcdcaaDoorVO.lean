/- Arguments opened: from what a place's datum reads as to the kinds of VD. -/
import Derived.Test.YteajnanbfkcdcaaDoorVD
import Derived.ChangeArms
import Derived.ChangeOld
import Derived.ChangeSlices
import Derived.SizedLaws
import Derived.OpenShut
import Derived.Laws.Rows
set_option linter.unusedVariables false
set_option linter.unusedSimpArgs false
namespace Go.Proofs.YteajnanbfkcdcaaDoor.VC
open Go Go.RowKit Go.ChangeShapes Go.WideShapes
theorem rdc_in {W : World} {H : Hp} {p : Addr} {v : Value} (h : W.cell? p = some v) : rdc W H p = some v ∧ p.block < W.heap.size := by
  have h0 := h
  unfold World.cell? at h
  split at h
  · rename_i c _ _ e
    have hb : p.block < W.heap.size := (Array.getElem?_eq_some_iff.1 e).1
    split at h
    · cases h
    · rename_i hs
      refine ⟨?_, hb⟩
      unfold rdc
      rw [if_neg hs, if_pos hb]
      exact h0
  · cases h
theorem flat_inv {n : Nat} {u : Value} : ∀ {css : List (List Value)} {j : Nat}, (∀ cs ∈ css, cs.length = n) → css.flatten[j]? = some u → ∃ i cs k, css[i]? = some cs ∧ cs[k]? = some u ∧ j = i * n + k
  | [], j, _, h => by simp at h
  | c :: css, j, hl, h => by
    have hc := hl c List.mem_cons_self
    rw [List.flatten_cons] at h
    rcases Nat.lt_or_ge j c.length with hj | hj
    · rw [List.getElem?_append_left hj] at h
      exact ⟨0, c, j, rfl, h, by omega⟩
    · rw [List.getElem?_append_right hj] at h
      obtain ⟨i, cs, k, h1, h2, h3⟩ := flat_inv (fun d hd => hl d (List.mem_cons_of_mem _ hd)) h
      exact ⟨i + 1, cs, k, by simpa using h1, h2, by rw [Nat.succ_mul]; omega⟩
theorem list_of {α : Type} {Q : Nat → α → Prop} : ∀ n : Nat, (∀ i, i < n → ∃ v, Q i v) → ∃ vs : List α, vs.length = n ∧ ∀ i v, vs[i]? = some v → Q i v
  | 0, _ => ⟨[], rfl, fun i v h => by simp at h⟩
  | n + 1, h => by
    obtain ⟨vs, hl, hv⟩ := list_of n (fun i hi => h i (by omega))
    obtain ⟨v, hq⟩ := h n (by omega)
    refine ⟨vs ++ [v], by simp [hl], fun i x hx => ?_⟩
    rcases Nat.lt_or_ge i n with hi | hi
    · rw [List.getElem?_append_left (by omega)] at hx
      exact hv i x hx
    · rw [List.getElem?_append_right (by omega)] at hx
      have : i - vs.length = 0 := by
        rcases Nat.eq_zero_or_pos (i - vs.length) with h | h
        · exact h
        · rw [List.getElem?_eq_none (by simp; omega)] at hx; cases hx
      rw [this] at hx
      simp at hx
      subst hx
      have : i = n := by omega
      subst this
      exact hq
section
variable {H : Type} {enc : TypeId × Value → H} {P : Program} {W : World} {base : Nat} {HH : Hp}
def Opens {H : Type} (enc : TypeId × Value → H) (P : Program) (W : World) (HH : Hp) (base : Nat) {α : Type} (d : Kd α) (t : TypeId) (ok : α → Prop) : Prop :=
  ∀ fuel cs x, DataW.trod enc P W base (fun _ => true) true fuel t cs = some x → ∃ v, d.rd W HH (fun _ => False) v cs ∧ ok v
theorem Opens.int {t : TypeId} (hu : P.underlying t = some (.int .i64)) : Opens enc P W HH base kI t (fun n => (Lit.int .i64 n).wf = true) := by
  intro fuel cs x h
  obtain ⟨n, rfl, rfl, hw⟩ := DataW.trod_int hu h
  exact ⟨n, rfl, hw⟩
theorem Opens.u8 {t : TypeId} (hu : P.underlying t = some (.int .u8)) : Opens enc P W HH base kU8 t (fun n => (Lit.int .u8 n).wf = true) := by
  intro fuel cs x h
  obtain ⟨n, rfl, rfl, hw⟩ := DataW.trod_int hu h
  exact ⟨n, rfl, hw⟩
theorem wf8 {n : Int} (h : (Lit.int .u8 n).wf = true) : 0 ≤ n ∧ n ≤ 255 := by
  simp [Lit.wf, IntKind.min, IntKind.max, IntKind.signed, IntKind.bits] at h
  omega
theorem Opens.bool {t : TypeId} (hu : P.underlying t = some .bool) : Opens enc P W HH base kB t (fun _ => True) := by
  intro fuel cs x h
  obtain ⟨n, rfl, rfl⟩ := DataW.trod_bool hu h
  exact ⟨n, rfl, trivial⟩
def okL {α : Type} (ok : α → Prop) (xs : List α) : Prop := ∀ x ∈ xs, ok x
theorem Opens.slice {α : Type} {d : Kd α} {t e : TypeId} {ok : α → Prop} (hu : P.underlying t = some (.slice e)) (hc : P.cellsOf e = d.sz) (hd : Opens enc P W HH base d e ok) : Opens enc P W HH base (kR d) t (okL ok) := by
  intro fuel cs x h
  rcases DataW.trod_slice hu h with ⟨rfl, rfl⟩ | ⟨a, len, cap, elems, rest, n, _, rfl, rfl, hb, hl, hm, hlen, hel, hsp, hns⟩
  · exact ⟨[], ⟨_, rfl, [], ⟨rfl, fun i x cs h => (by cases h)⟩, ⟨by simp, fun u h => (by cases h), none, 0, rfl, Nat.le_refl _, Nat.zero_le _, fun _ => rfl, fun ad h => (by cases h)⟩⟩, fun _ h => by cases h⟩
  · have each : ∀ i, i < len → ∃ v : α × List Value, (fun (i : Nat) (v : α × List Value) => (d.rd W HH (fun _ => False) v.1 v.2 ∧ ∀ j u, v.2[j]? = some u → W.cell? (a.add (i * d.sz + j)) = some u) ∧ ok v.1) i v := by
      intro i hi
      have h1 := hel i hi
      have hi' : i < elems.length := by omega
      rw [List.getElem?_eq_getElem hi', Option.bind_eq_some_iff] at h1
      obtain ⟨c, hcells, htr⟩ := h1
      obtain ⟨v, hK, hok⟩ := hd n c _ htr
      refine ⟨(v, c), ⟨hK, fun j u hj => ?_⟩, hok⟩
      have hcs := World.cells?_some hcells
      have hj' : j < c.length := (List.getElem?_eq_some_iff.1 hj).1
      have h2 := hcs.2.2 j (by rw [hc, ← d.len hK]; exact hj')
      have hj2 : c[j]? = some u := hj
      rw [hc, hj2] at h2
      rw [← h2, add_add]
    obtain ⟨vs, hvl, hv⟩ := list_of len each
    have hseg : Segs (fun _ x cs => d.rd W HH (fun _ => False) x cs) (vs.map (·.1)) (vs.map (·.2)) := ⟨by simp, fun i x cs h1 h2 => by
      rw [List.getElem?_map, Option.map_eq_some_iff] at h1 h2
      obtain ⟨w1, e1, rfl⟩ := h1
      obtain ⟨w2, e2, rfl⟩ := h2
      rw [e1] at e2
      cases e2
      exact (hv i w1 e1).1.1⟩
    have hf := hseg.flat (fun _ _ _ h => d.len h)
    refine ⟨vs.map (·.1), ⟨_, rfl, vs.map (·.2), hseg, ⟨hf.2, fun u hu => ?_, some a, cap, by rw [List.length_map, hvl], by rw [List.length_map]; omega, hm, fun h => (by cases h), fun ad hA hpos j u hu => ?_⟩⟩, fun x hx => ?_⟩
    · obtain ⟨cs, hcs, hu⟩ := List.mem_flatten.1 hu
      obtain ⟨w1, hw1, rfl⟩ := List.mem_map.1 hcs
      obtain ⟨i, hi⟩ := List.getElem?_of_mem hw1
      exact d.one (hv i w1 hi).1.1 u hu
    · cases hA
      obtain ⟨i, cs, k, h1, h2, rfl⟩ := flat_inv hf.1 hu
      rw [List.getElem?_map, Option.map_eq_some_iff] at h1
      obtain ⟨w1, e1, rfl⟩ := h1
      obtain ⟨g1, g2⟩ := rdc_in (H := HH) ((hv i w1 e1).1.2 k u h2)
      refine ⟨g1, fun hw => ?_⟩
      rw [block_add] at g2
      omega
    · obtain ⟨w1, hw1, rfl⟩ := List.mem_map.1 hx
      obtain ⟨i, hi⟩ := List.getElem?_of_mem hw1
      exact (hv i w1 hi).2
/-- The fields of a struct, from one on. -/
def OpensF {H : Type} (enc : TypeId × Value → H) (P : Program) (W : World) (HH : Hp) (base : Nat) {α : Type} (d : Kd α) (fs : List Field) (off : Nat) (ok : α → Prop) : Prop :=
  ∀ n (cs : List Value) (ys : List (DataW H × List MemPlace)), cs.length = off + d.sz → ys.length = fs.length → (∀ (i : Nat) (f : Field), fs[i]? = some f → DataW.trod enc P W base (fun _ => true) true n f.type ((cs.drop f.offset).take (P.cellsOf f.type)) = ys[i]?) →
    ∃ v, d.rd W HH (fun _ => False) v (cs.drop off) ∧ ok v
theorem OpensF.last {α : Type} {d : Kd α} {f : Field} {off : Nat} {ok : α → Prop} (ho : f.offset = off) (hc : P.cellsOf f.type = d.sz) (hd : Opens enc P W HH base d f.type ok) : OpensF enc P W HH base d [f] off ok := by
  intro n cs ys hcs hl hf
  match ys, hl with
  | [y], _ =>
    have h := hf 0 f rfl
    rw [ho, hc, List.take_of_length_le (by rw [List.length_drop]; omega)] at h
    exact hd n _ y h
theorem OpensF.cons {α β : Type} {a : Kd α} {b : Kd β} {f : Field} {fs : List Field} {off : Nat} {oka : α → Prop} {okb : β → Prop} (ho : f.offset = off) (hc : P.cellsOf f.type = a.sz) (ha : Opens enc P W HH base a f.type oka)
    (hb : OpensF enc P W HH base b fs (off + a.sz) okb) : OpensF enc P W HH base (kP a b) (f :: fs) off (fun x => oka x.1 ∧ okb x.2) := by
  intro n cs ys hcs hl hf
  have hcs' : cs.length = off + (a.sz + b.sz) := hcs
  match ys, hl with
  | y :: ys, hl =>
    have h := hf 0 f rfl
    rw [ho, hc] at h
    obtain ⟨v0, h0, o0⟩ := ha n _ y h
    obtain ⟨v1, h1, o1⟩ := hb n cs ys (by omega) (by simpa using hl) (fun i g hi => hf (i + 1) g (by simpa using hi))
    refine ⟨(v0, v1), ⟨_, _, ?_, h0, h1⟩, o0, o1⟩
    rw [← List.drop_drop, List.take_append_drop]
theorem Opens.struct {α : Type} {d : Kd α} {t : TypeId} {fs : Array Field} {ok : α → Prop} (hu : P.underlying t = some (.struct fs)) (hc : P.cellsOf t = d.sz) (hd : OpensF enc P W HH base d fs.toList 0 ok) : Opens enc P W HH base d t ok := by
  intro fuel cs x h
  obtain ⟨xs, n, _, rfl, hl, hlen, hf⟩ := DataW.trod_struct hu h
  have := hd n cs xs (by rw [hl, hc, Nat.zero_add]) (by simpa using hlen) (fun i f hi => hf i f (by simpa using hi))
  simpa using this
/-- An argument's slice. -/
theorem Opens.arg {α : Type} {d : Kd α} {t : TypeId} {ok : List α → Prop} {v : Value} {x : DataW H} {ps : List MemPlace} (hd : Opens enc P W HH base (kR d) t ok) (hv : v.cells.toList = [v]) (h : DataW.Trod enc P W base (fun _ => true) true t v x ps) :
    ∃ l : List α, RdK d W HH (fun _ => False) v l ∧ ok l := by
  obtain ⟨fuel, hf⟩ := h
  rw [hv] at hf
  obtain ⟨l, ⟨u, hc, hC⟩, h1⟩ := hd fuel _ _ hf
  cases hc
  exact ⟨l, hC, h1⟩
end
/-- What is known when a call begins. -/
def Hp.start (W : World) : Hp := ⟨fun _ => none, W.heap.size, fun b x h => by cases h⟩
theorem sat_start (W : World) : SatH W (Hp.start W) W := ⟨Below.refl _ _, Nat.le_refl _, fun b x h => by cases h⟩
end Go.Proofs.YteajnanbfkcdcaaDoor.VC
