/- Arguments opened: from what a place's datum reads as to the kinds that the printed contracts read. -/
import Derived.Test.YtonpikcbmgmchaaWWords
import Derived.ChangeArms
import Derived.ChangeOld
import Derived.ChangeSlices
import Derived.SizedLaws
import Derived.OpenShut
import Derived.Laws.Rows
set_option linter.unusedVariables false
set_option linter.unusedSimpArgs false
namespace Go.Proofs.Ytonpikcbmgmchaa.O
open Go.RowKit Go.Proofs.YtonpikcbmgmchaaW.PrintWords Go.ChangeShapes Go.WideShapes

/-- What no weight of a datum goes beyond. -/
def Sz {H : Type} (P : Program) (t : TypeId) (d : DataW H) : Prop := ∀ n ∈ d.weights P t, n ≤ reachBytes
theorem Sz.of {H : Type} {P : Program} {ts : List TypeId} {ds : List (DataW H)} (h : (DataW.weightsEach P ts ds).all (· ≤ reachBytes) = true) {j : Nat} {t : TypeId} {d : DataW H} (ht : ts[j]? = some t) (hd : ds[j]? = some d) : Sz P t d :=
  fun n hn => by simpa using List.all_eq_true.1 h n (DataW.weights_mem_each ht hd n hn)
theorem reach_eq : reachBytes = 140737488351232 := by decide
theorem mem_all {H : Type} {P : Program} {e : TypeId} : ∀ {l : List (DataW H)} {d : DataW H}, d ∈ l → ∀ n ∈ d.weights P e, n ∈ DataW.weightsAll P e l
  | x :: l, d, h, n, hn => by
    unfold DataW.weightsAll
    rcases List.mem_cons.1 h with rfl | h
    · exact List.mem_append_left _ hn
    · exact List.mem_append_right _ (mem_all h n hn)

theorem list_of {α : Type} {Q : Nat → α → Prop} : ∀ n : Nat, (∀ i, i < n → ∃ v, Q i v) → ∃ vs : List α, vs.length = n ∧ ∀ i v, vs[i]? = some v → Q i v
  | 0, _ => ⟨[], rfl, fun i v h => by simp at h⟩
  | n + 1, h => by
    obtain ⟨vs, hl, hv⟩ := list_of n (fun i hi => h i (by omega))
    obtain ⟨v, hq⟩ := h n (by omega)
    refine ⟨vs ++ [v], by simp [hl], fun i x hx => ?_⟩
    rcases Nat.lt_or_ge i n with hi | hi
    · rw [List.getElem?_append_left (by omega)] at hx
      exact hv i x hx
    · rw [List.getElem?_append_right (by omega)] at hx
      have : i - vs.length = 0 := by
        rcases Nat.eq_zero_or_pos (i - vs.length) with h | h
        · exact h
        · rw [List.getElem?_eq_none (by simp; omega)] at hx; cases hx
      rw [this] at hx
      simp at hx
      subst hx
      have : i = n := by omega
      subst this
      exact hq

section
variable {H : Type} {enc : TypeId × Value → H} {P : Program} {W : World} {base : Nat}

def Opens {H : Type} (enc : TypeId × Value → H) (P : Program) (W : World) (base : Nat) {α : Type} (d : Kd α) (t : TypeId) (ok : α → Prop) : Prop :=
  ∀ fuel cs x, DataW.trod enc P W base (fun _ => true) true fuel t cs = some x → Sz P t x.1 → ∃ v, d.K W v cs ∧ ok v
/-- What is told of a list: its length, the bytes it takes, its elements. -/
def okL {α : Type} (B : Nat) (ok : α → Prop) (xs : List α) : Prop := xs.length ≤ maxLen ∧ xs.length * B ≤ 140737488351232 ∧ ∀ x ∈ xs, ok x

theorem Opens.int {t : TypeId} {k : IntKind} (hu : P.underlying t = some (.int k)) : Opens enc P W base (Kd.int k) t (fun n => (Lit.int k n).wf = true) := by
  intro fuel cs x h _
  obtain ⟨n, rfl, rfl, hw⟩ := DataW.trod_int hu h
  exact ⟨n, rfl, hw⟩
theorem Opens.bool {t : TypeId} (hu : P.underlying t = some .bool) : Opens enc P W base Kd.bool t (fun _ => True) := by
  intro fuel cs x h _
  obtain ⟨n, rfl, rfl⟩ := DataW.trod_bool hu h
  exact ⟨n, rfl, trivial⟩
theorem Opens.str {t : TypeId} (hu : P.underlying t = some .string) : Opens enc P W base Kd.string t (fun s => s.size ≤ 140737488351232) := by
  intro fuel cs x h hs
  obtain ⟨s, rfl, rfl, _⟩ := DataW.trod_string hu h
  refine ⟨s, rfl, ?_⟩
  have := hs s.data.toList.length (by simp [DataW.weights])
  rw [reach_eq] at this
  simpa using this
theorem Opens.slice {α : Type} {d : Kd α} {t e : TypeId} {B : Nat} {ok : α → Prop} (hu : P.underlying t = some (.slice e)) (hc : P.cellsOf e = d.sz) (hB : P.bytesOf e = B) (hd : Opens enc P W base d e ok) : Opens enc P W base (Kd.slice e d) t (okL B ok) := by
  intro fuel cs x h hs
  rcases DataW.trod_slice hu h with ⟨rfl, rfl⟩ | ⟨a, len, cap, elems, rest, n, _, rfl, rfl, hb, hl, hm, hlen, hel, hsp, hns⟩
  · exact ⟨[], ⟨none, 0, rfl, Nat.le_refl _, rfl, Nat.zero_le _, fun h => absurd h (Nat.lt_irrefl 0)⟩, Nat.zero_le _, by simp, fun _ h => by cases h⟩
  · have hw : ∀ m ∈ DataW.weights P t (.slice (elems.map (·.1)) (rest.map (·.1)) : DataW H), m ≤ reachBytes := hs
    simp only [DataW.weights, hu] at hw
    have hsz := hw _ List.mem_cons_self
    have each : ∀ i, i < len → ∃ v : α, (fun (i : Nat) (v : α) => (∃ c, c.length = d.sz ∧ d.K W v c ∧ ∀ j u, c[j]? = some u → W.cell? (a.add (i * d.sz + j)) = some u) ∧ ok v) i v := by
      intro i hi
      have h1 := hel i hi
      have hi' : i < elems.length := by omega
      rw [List.getElem?_eq_getElem hi', Option.bind_eq_some_iff] at h1
      obtain ⟨c, hcells, htr⟩ := h1
      obtain ⟨v, hK, hok⟩ := hd n c _ htr (fun m hm' => hw m (List.mem_cons_of_mem _ (List.mem_append_left _ (mem_all (List.mem_map.2 ⟨_, List.getElem_mem hi', rfl⟩) m hm'))))
      refine ⟨v, ⟨c, d.K_len hK, hK, fun j u hj => ?_⟩, hok⟩
      have hj' : j < c.length := by
        rcases Nat.lt_or_ge j c.length with h | h
        · exact h
        · rw [List.getElem?_eq_none h] at hj; cases hj
      have hcs := World.cells?_some hcells
      have h2 := hcs.2.2 j (by rw [hc, ← d.K_len hK]; exact hj')
      rw [hc] at h2
      rw [hj] at h2
      rw [← h2]
      rcases Nat.eq_zero_or_pos j with rfl | hjp
      · simp [Addr.add]
      · rw [add_field _ _ j hjp]
        congr 1
        unfold Addr.add
        rw [if_neg (show ¬ j = 0 by omega)]
    obtain ⟨vs, hvl, hv⟩ := list_of len each
    have hle : vs.length ≤ maxLen := by omega
    refine ⟨vs, ⟨some a, cap, by rw [hvl], by omega, rfl, Nat.le_trans hle (by decide), fun _ => ⟨a, rfl, fun j p hj => (hv j p hj).1⟩⟩, hle, ?_, fun x hx => ?_⟩
    · rw [hB, reach_eq, List.length_map, List.length_map] at hsz
      exact Nat.le_trans (Nat.mul_le_mul_right _ (by omega)) hsz
    · obtain ⟨j, hj⟩ := List.getElem?_of_mem hx
      exact (hv j x hj).2
theorem Opens.iso {α β : Type} {d : Kd α} {t : TypeId} {ok : α → Prop} (f : β → α) (g : α → β) (h : ∀ x, f (g x) = x) (hd : Opens enc P W base d t ok) : Opens enc P W base (Kd.iso d f) t (fun x => ok (f x)) := by
  intro fuel cs x hx hs
  obtain ⟨v, hK, hok⟩ := hd fuel cs x hx hs
  exact ⟨g v, by show d.K W (f (g v)) cs; rw [h]; exact hK, by show ok (f (g v)); rw [h]; exact hok⟩
/-- The fields of a struct, from one on. -/
def OpensF {H : Type} (enc : TypeId × Value → H) (P : Program) (W : World) (base : Nat) {α : Type} (d : Kd α) (fs : List Field) (off : Nat) (ok : α → Prop) : Prop :=
  ∀ n (cs : List Value) (ys : List (DataW H × List MemPlace)), cs.length = off + d.sz → ys.length = fs.length → (∀ (i : Nat) (f : Field), fs[i]? = some f → DataW.trod enc P W base (fun _ => true) true n f.type ((cs.drop f.offset).take (P.cellsOf f.type)) = ys[i]?) →
    (∀ n ∈ DataW.weightsEach P (fs.map (·.type)) (ys.map (·.1)), n ≤ reachBytes) → ∃ v, d.K W v (cs.drop off) ∧ ok v
theorem OpensF.last {α : Type} {d : Kd α} {f : Field} {off : Nat} {ok : α → Prop} (ho : f.offset = off) (hc : P.cellsOf f.type = d.sz) (hd : Opens enc P W base d f.type ok) : OpensF enc P W base d [f] off ok := by
  intro n cs ys hcs hl hf hw
  match ys, hl with
  | [y], _ =>
    have h := hf 0 f rfl
    rw [ho, hc, List.take_of_length_le (by rw [List.length_drop]; omega)] at h
    exact hd n _ y h (fun m hm => hw m (by simpa [DataW.weightsEach] using hm))
theorem OpensF.cons {α β : Type} {a : Kd α} {b : Kd β} {f : Field} {fs : List Field} {off : Nat} {oka : α → Prop} {okb : β → Prop} (ho : f.offset = off) (hc : P.cellsOf f.type = a.sz) (ha : Opens enc P W base a f.type oka)
    (hb : OpensF enc P W base b fs (off + a.sz) okb) : OpensF enc P W base (Kd.pair a b) (f :: fs) off (fun x => oka x.1 ∧ okb x.2) := by
  intro n cs ys hcs hl hf hw
  have hcs' : cs.length = off + (a.sz + b.sz) := hcs
  match ys, hl with
  | y :: ys, hl =>
    have h := hf 0 f rfl
    rw [ho, hc] at h
    obtain ⟨v0, h0, o0⟩ := ha n _ y h (fun m hm => hw m (by
      show m ∈ DataW.weightsEach P (f.type :: fs.map (·.type)) (y.1 :: ys.map (·.1))
      unfold DataW.weightsEach
      exact List.mem_append_left _ hm))
    obtain ⟨v1, h1, o1⟩ := hb n cs ys (by omega) (by simpa using hl) (fun i g hi => hf (i + 1) g (by simpa using hi)) (fun m hm => hw m (by
      show m ∈ DataW.weightsEach P (f.type :: fs.map (·.type)) (y.1 :: ys.map (·.1))
      unfold DataW.weightsEach
      exact List.mem_append_right _ hm))
    refine ⟨(v0, v1), ⟨_, _, ?_, h0, h1⟩, o0, o1⟩
    rw [← List.drop_drop, List.take_append_drop]
theorem Opens.struct {α : Type} {d : Kd α} {t : TypeId} {fs : Array Field} {ok : α → Prop} (hu : P.underlying t = some (.struct fs)) (hc : P.cellsOf t = d.sz) (hd : OpensF enc P W base d fs.toList 0 ok) : Opens enc P W base d t ok := by
  intro fuel cs x h hs
  obtain ⟨xs, n, _, rfl, hl, hlen, hf⟩ := DataW.trod_struct hu h
  have := hd n cs xs (by rw [hl, hc, Nat.zero_add]) (by simpa using hlen) (fun i f hi => hf i f (by simpa using hi)) (fun m hm => hs m (by simpa [DataW.weights, hu] using hm))
  simpa using this
/-- An argument's slice. -/
theorem Opens.arg {α : Type} {d : Kd α} {t e : TypeId} {B : Nat} {ok : α → Prop} {a : Option Addr} {len cap : Nat} {x : DataW H} {ps : List MemPlace} (hd : Opens enc P W base (Kd.slice e d) t (okL B ok)) (h : DataW.Trod enc P W base (fun _ => true) true t (.slice a len cap) x ps) (hs : Sz P t x) :
    ∃ l : List α, len = l.length ∧ Kd.C d W a l.length l ∧ l.length ≤ cap ∧ l.length ≤ maxLen ∧ l.length * B ≤ 140737488351232 ∧ ∀ y ∈ l, ok y := by
  obtain ⟨fuel, hf⟩ := h
  obtain ⟨l, ⟨A, c, hc, hl, hC⟩, h1, h2, h3⟩ := hd fuel _ _ hf hs
  simp only [Value.cells, List.cons.injEq, and_true, Value.slice.injEq] at hc
  obtain ⟨rfl, rfl, rfl⟩ := hc
  exact ⟨l, rfl, hC, hl, h1, h2, h3⟩
end
end Go.Proofs.Ytonpikcbmgmchaa.O
