/- Strings out of rows of bytes, and parts of strings. -/
import Derived.Test.YteajnanbfkcdcaaDoorVE
import Derived.Laws.BytesArg
import Derived.Laws.DeepStrings4
set_option linter.unusedVariables false
set_option linter.unusedSimpArgs false
namespace Go.Proofs.YteajnanbfkcdcaaDoor.VC
open Go Go.RowKit
variable {P : Program} {W : World} {N : Nat} {E : List (Nat × Value)} {H : Hp}
def bytesOf (l : List Int) : ByteArray := l.foldl (fun r n => r.push (UInt8.ofNat n.toNat)) ByteArray.empty
theorem u8_css {ok : Nat → Prop} {l : List Int} {css : List (List Value)} (h : Segs (fun _ x cs => kU8.rd W H ok x cs) l css) : css.flatten = l.map (Value.int .u8) := by
  have : css = l.map (fun x => [Value.int .u8 x]) := by
    apply List.ext_getElem?
    intro j
    rw [List.getElem?_map]
    by_cases hj : j < l.length
    · have hc : j < css.length := by rw [h.1]; exact hj
      rw [List.getElem?_eq_getElem hj, List.getElem?_eq_getElem hc]
      exact congrArg some (h.2 j _ _ (List.getElem?_eq_getElem hj) (List.getElem?_eq_getElem hc))
    · rw [List.getElem?_eq_none (by rw [h.1]; omega), List.getElem?_eq_none (by omega)]; rfl
  subst this
  clear h
  induction l with
  | nil => rfl
  | cons a l ih => simp only [List.map_cons, List.flatten_cons, ih]; rfl
theorem HV.cvb {s t e : TypeId} {x : Operand} {d : Nat} {ty : TypeId} {pos : String} {af : Array Edge} {gd : Option (Nat × Bool)} {v : Value} {l : List Int} {ok : Nat → Prop} (hs : P.underlying s = some (.slice e)) (he : P.underlying e = some (.int .u8)) (hd : P.underlying t = some .string) (hx : evl E x = some v) (hr : RdK kU8 W H ok v l) :
    HV P W N E H ⟨some d, .convert s t x, ty, pos, af, gd⟩ (.string (bytesOf l)) := fun a w ha hw => by
  obtain ⟨css, hseg, hR⟩ := hr
  rw [u8_css hseg] at hR
  obtain ⟨h1, h2, A, c, rfl, h3, h4, h5, h6⟩ := hR
  have key : (convert s t (.slice A l.length c)).run P w = .ok (.string (bytesOf l)) w := by
    rw [run_convert_bytes_string w s t e A l.length c hs he hd]
    cases A with
    | none =>
      have : c = 0 := h5 rfl
      have : l = [] := List.eq_nil_of_length_eq_zero (by omega)
      subst this
      rfl
    | some ad =>
      refine run_bytesToString w ad l.length c l ?_
      have := run_loadCells_list (P := P) w ad (l.map (Value.int .u8)) (fun j u hj => by
        have hjl : j < l.length := by
          have := (List.getElem?_eq_some_iff.1 hj).1
          simpa using this
        exact hw.cell (h6 ad rfl (by omega) j u hj).1)
      simpa using this
  simp [execOp, ha.ev hx, key]
theorem HV.sls {t : TypeId} {x lo hi : Operand} {d : Nat} {ty : TypeId} {pos : String} {af : Array Edge} {gd : Option (Nat × Bool)} {s : ByteArray} {k k' : IntKind} {i j : Int} (ht : P.underlying t = some .string) (hx : evl E x = some (.string s)) (hl : evl E lo = some (.int k i)) (hh : evl E hi = some (.int k' j)) (h0 : 0 ≤ i) (h1 : i ≤ j) (h2 : j ≤ (s.size : Int)) :
    HV P W N E H ⟨some d, .slice t x (some lo) (some hi) none, ty, pos, af, gd⟩ (.string (s.extract i.toNat j.toNat)) := fun a w ha hw => by
  have key := run_slice_string_if (P := P) (w := w) t s k k' i j ht
  rw [if_pos ⟨by omega, h2⟩, if_pos ⟨h0, h1⟩] at key
  simp [execOp, ha.ev hx, ha.ev hl, ha.ev hh, Instr.sliceAt, run_underlying ht, key]
theorem bytesOf_go (l : List Int) (r : ByteArray) : l.foldl (fun r n => r.push (UInt8.ofNat n.toNat)) r = r ++ bytesOf l := by
  unfold bytesOf
  suffices h : ∀ (l : List Int) (r s : ByteArray), l.foldl (fun r n => r.push (UInt8.ofNat n.toNat)) (r ++ s) = r ++ l.foldl (fun r n => r.push (UInt8.ofNat n.toNat)) s by
    have := h l r ByteArray.empty
    rwa [ByteArray.append_empty] at this
  intro l
  induction l with
  | nil => intro r s; rfl
  | cons a l ih =>
    intro r s
    simp only [List.foldl_cons]
    rw [← ih]
    congr 1
    apply ByteArray.ext
    simp [ByteArray.push, ByteArray.data_append]
theorem bytesOf_app (a b : List Int) : bytesOf (a ++ b) = bytesOf a ++ bytesOf b := by
  rw [show bytesOf (a ++ b) = (a ++ b).foldl (fun r n => r.push (UInt8.ofNat n.toNat)) ByteArray.empty from rfl, List.foldl_append, bytesOf_go b]
  rfl
theorem bytesOf_size (l : List Int) : (bytesOf l).size = l.length := by
  induction l with
  | nil => rfl
  | cons a l ih =>
    rw [show a :: l = [a] ++ l from rfl, bytesOf_app, ByteArray.size_append, ih]
    simp only [List.length_append, List.length_singleton]
    rfl
end Go.Proofs.YteajnanbfkcdcaaDoor.VC
