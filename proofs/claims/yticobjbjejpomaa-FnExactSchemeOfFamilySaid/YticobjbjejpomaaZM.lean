/- Rows of rows that are written: two rows change places, a row is written beside another. -/
import Derived.Test.YticobjbjejpomaaZS3
set_option linter.unusedVariables false
set_option linter.unusedSimpArgs false
namespace Go.Proofs.Yticobjbjejpomaa.VC
open Go Go.RowKit
variable {P : Program} {W : World} {N : Nat} {E : List (Nat × Value)} {H H' : Hp}
theorem post_ct {fn : Func} {R : Value → Hp → Prop} {t ty u : Nat} {cs : List Value} {b T n : Nat} {z : Value} (hr : fn.results = #[.cell t ty, .tmp u]) (hp : geti E t = some (.pointer (some ⟨b, 0, none⟩))) (hz : geti E u = some z) (ht : VarT P ty true cs.length) (hb : At W H b ⟨T, cs, n⟩) (h : R (.tuple #[.agg cs.toArray, z]) H) {e : Exit} (he : e = .normal ∨ e = .ret) : post W P fn R e E H :=
  ⟨he, _, fun a w ha hw => by
    have hp' : a.tmps.getD t undef = .pointer (some ⟨b, 0, none⟩) := ha.ev (x := .tmp t) hp
    have hz' : a.tmps.getD u undef = z := ha.ev (x := .tmp u) hz
    have hq := run_loadVar_agg (P := P) (w := w) (p := ⟨b, 0, none⟩) ht (fun j u hu => hw.cell (by have := hb.rd hu; rw [add_at, Nat.zero_add]; exact this))
    have hp'' : a.tmps[t]?.getD undef = .pointer (some ⟨b, 0, none⟩) := by simpa using hp'
    have hz'' : a.tmps[u]?.getD undef = z := by simpa using hz'
    simp [results, hr, hp'', hz'', asAddr, hq], h⟩
section
variable {e g : Nat} {ok : Nat → Prop} {v : Value} {l : List (List Int)}
/-- The values of a row of rows, and where each row lies. -/
theorem OwnD.raw (h : OwnD (kO 2 kI) e W H ok v l) : ∃ (lab : Nat → Nat) (vs : List Value), vs.length = l.length ∧ OwnK kV e W H ok v vs ∧ ∀ (j : Nat) (u : Value) (x : List Int), vs[j]? = some u → l[j]? = some x → OwnK kI 2 W H (fun b => ok b ∧ some b ≠ v.ownBlock ∧ lab b = j) u x := by
  obtain ⟨lab, css, hs, ho⟩ := h
  have hf := hs.flat (fun _ _ _ h => (kO 2 kI).len h)
  have hf1 : ∀ cs ∈ css, cs.length = 1 := hf.1
  have hfl : css.flatten.length = l.length := hf.2.trans (Nat.mul_one _)
  have hat : ∀ (j : Nat) (u : Value) (x : List Int), css.flatten[j]? = some u → l[j]? = some x → css[j]? = some [u] ∧ OwnK kI 2 W H (fun b => ok b ∧ some b ≠ v.ownBlock ∧ lab b = j) u x := fun j u x hu hx => by
    have hj := (List.getElem?_eq_some_iff.1 hx).1
    have hc : j < css.length := by rw [hs.1]; exact hj
    obtain ⟨u', hcs, hO⟩ := hs.2 j x _ hx (List.getElem?_eq_getElem hc)
    have := flat_get (n := 1) hf1 (List.getElem?_eq_getElem hc) (j := 0) (u := u') (by rw [hcs]; rfl)
    rw [Nat.mul_one, Nat.add_zero, hu] at this
    cases this
    exact ⟨by rw [List.getElem?_eq_getElem hc, hcs], hO⟩
  refine ⟨lab, css.flatten, hfl, ⟨css, ⟨by rw [hs.1, hfl], fun j u cs q1 q2 => ?_⟩, by rw [hfl]; exact ho⟩, fun j u x hu hx => (hat j u x hu hx).2⟩
  have hj : j < l.length := by rw [← hfl]; exact (List.getElem?_eq_some_iff.1 q1).1
  obtain ⟨h1, h2⟩ := hat j u _ q1 (List.getElem?_eq_getElem hj)
  rw [q2] at h1
  cases h1
  exact ⟨rfl, _, h2.isSl⟩
theorem own_get {vs : List Value} (h : OwnK kV e W H ok v vs) (hg : some g = v.ownBlock) {i : Nat} {u : Value} (hC : rdc W H ⟨g, i * (kO 2 kI).sz, none⟩ = some u) (hi : i < vs.length) : vs[i]? = some u := by
  obtain ⟨css, hs, hl, ho, hat⟩ := h
  have hf := (hs.flat (fun _ _ _ h => kV.len h)).1
  have hi' : i < css.length := by rw [hs.1]; exact hi
  rcases hat with ⟨rfl, h0⟩ | ⟨g', c, rfl, hg', hA, hc, hm⟩
  · omega
  · simp only [Value.ownBlock, Option.some.injEq] at hg
    subst hg
    have hK := (hs.2 i _ _ (List.getElem?_eq_getElem hi) (List.getElem?_eq_getElem hi')).1
    have e1 : css.flatten[i * kV.sz + 0]? = some vs[i] := flat_get hf (List.getElem?_eq_getElem hi') (by rw [hK]; rfl)
    have e2 := hA.rd e1
    rw [Nat.add_zero] at e2
    have e3 := hC.symm.trans e2
    rw [List.getElem?_eq_getElem hi]
    exact e3.symm
/-- Another element's row lies beside it. -/
theorem OwnD.off (h : OwnD (kO 2 kI) e W H ok v l) {g2 : Nat} (hg : some g = v.ownBlock) (hg2 : some g2 = v.ownBlock) {i j : Nat} {ui uj : Value} (hCi : rdc W H ⟨g, i * (kO 2 kI).sz, none⟩ = some ui) (hCj : rdc W H ⟨g2, j * (kO 2 kI).sz, none⟩ = some uj) (hi : i < l.length) (hj : j < l.length) (hne : i ≠ j) :
    OwnK kI 2 W H (fun b => ok b ∧ ¬ some b = ui.ownBlock) uj (l.getD j []) := by
  obtain rfl : g2 = g := Option.some.inj (hg2.trans hg.symm)
  obtain ⟨lab, vs, hl, hv, hr⟩ := h.raw
  have hu := own_get hv hg hCi (by omega)
  have hu2 := own_get hv hg hCj (by omega)
  have hx : ∀ {i : Nat}, i < l.length → l[i]? = some (l.getD i []) := fun hi => by rw [List.getD_eq_getElem?_getD, List.getElem?_eq_getElem hi]; rfl
  have h1 := hr i ui _ hu (hx hi)
  exact (hr j uj _ hu2 (hx hj)).okk (fun b hb _ => ⟨hb.1, fun q => hne ((h1.blk b q).1.2.2.symm.trans hb.2.2)⟩)
/-- Between the two stores. -/
def Swp (W : World) (H : Hp) (e : Nat) (ok : Nat → Prop) (v : Value) (l : List (List Int)) (i j : Nat) (ui uj : Value) : Prop :=
  ∃ (lab : Nat → Nat) (vs : List Value), vs.length = l.length ∧ OwnK kV e W H ok v (vs.set i uj) ∧ vs[i]? = some ui ∧ vs[j]? = some uj ∧ ∀ (q : Nat) (u : Value) (x : List Int), vs[q]? = some u → l[q]? = some x → OwnK kI 2 W H (fun b => ok b ∧ some b ≠ v.ownBlock ∧ lab b = q) u x
variable {d : Nat} {ty : TypeId} {pos : String} {af : Array Edge} {gd : Option (Nat × Bool)} {t : TypeId} {x y : Operand} {i j : Nat} {ui uj : Value}
end
end Go.Proofs.Yticobjbjejpomaa.VC

