-- By xprint.py and given.py (wip/gen): the kit's print of this seat, some functions' contracts given.
import Derived.Test.YtemdeeepamnbcaaProg
import Derived.Below
import Derived.Deep.Draws
import Derived.Deep.AppendLies
import Derived.Maps.AppendAt
import Derived.OwnWalk
import Derived.Laws.BytesArg
import Derived.Laws.MakeOwn
import Derived.Laws.OwnMore
import Derived.Deep.OwnRows
import Derived.Tactics
import Derived.Lib.ConvBytes
import Derived.Laws.Slices
import Derived.WalkKit
import Derived.KernelRfl
import Derived.RowKit3
import Derived.Deep.LoopGhost
import Derived.Deep.QuietTactic
import Derived.BigQuiet
import Derived.WideLaws
import Derived.Deep.DeepCutAuto
import Derived.Deep.CutBlock
import Derived.Deep.RegionHeld3
import Derived.Laws.Rows
import Derived.Lib.AppendStr
import Derived.ArgAppend
import Derived.Laws.IdiomCopy
import Derived.OrdersHeld
import Derived.Laws.BitsLemmas
import Derived.RowKit
import Derived.Shelf.Abstract
import Derived.Test.YtemdeeepamnbcaaWWords
import Derived.Test.YtemdeeepamnbcaaWLast
import Derived.Test.YtemdeeepamnbcaaWTab
import Derived.Test.YtemdeeepamnbcaaWFour
import Derived.Test.YtemdeeepamnbcaaWQPut
import Derived.Test.YtemdeeepamnbcaaWApart
import Derived.Test.YtemdeeepamnbcaaWArr
import Derived.Test.YtemdeeepamnbcaaWZeros
import Derived.Test.YtemdeeepamnbcaaWFoot
import Derived.Test.YtemdeeepamnbcaaWKept
import Derived.Test.YtemdeeepamnbcaaWShare
import Derived.Test.YtemdeeepamnbcaaWN
import Derived.Test.YtemdeeepamnbcaaWFootNe
import Derived.Test.YtemdeeepamnbcaaWAt
import Derived.Test.YtemdeeepamnbcaaWEqStruct
import Derived.Test.YtemdeeepamnbcaaWRepsOne
import Derived.Test.YtemdeeepamnbcaaWInv
import Derived.Test.YtemdeeepamnbcaaWInvWords
import Derived.Test.YtemdeeepamnbcaaWGuard
import Derived.Test.YtemdeeepamnbcaaWNEv
import Derived.Test.YtemdeeepamnbcaaWMore
namespace Go.Proofs.Ytemdeeepamnbcaa.PFnExactValidCurve
open Go.RowKit Go.Proofs.YtemdeeepamnbcaaW.PrintWords Go.Proofs.YtemdeeepamnbcaaW.PrintLast Go.Proofs.YtemdeeepamnbcaaW.PrintMore
attribute [local go_sem] max2_int min2_int max_two min_two max_three min_three max_four min_four   -- for this text's walks alone
set_option linter.unusedVariables false
set_option linter.unusedSimpArgs false



def errW : Option Int → Value
  | none => .nilIface
  | some c => .iface 0 (.int .i64 c)
theorem errW_none : errW none = .nilIface := rfl
theorem errW_some (c : Int) : errW (some c) = .iface 0 (.int .i64 c) := rfl

def findFrom {α : Type} (pf : α → Option Bool) : List α → Int → Option Int
  | [], _ => some (-1)
  | x :: xs, i => (pf x).bind fun b => if b = true then some i else findFrom pf xs (i + 1)
def anyO {α : Type} (pf : α → Option Bool) : List α → Option Bool
  | [] => some false
  | x :: xs => (pf x).bind fun b => if b = true then some true else anyO pf xs
theorem findFrom_drop {α : Type} {pf : α → Option Bool} {l : List α} {kk : Nat} {r : Int} (hlt : kk < l.length) (h : findFrom pf (l.drop kk) kk = some r) :
    ∃ b, pf l[kk] = some b ∧ (b = true → r = kk) ∧ (b = false → findFrom pf (l.drop (kk + 1)) ((kk + 1 : Nat) : Int) = some r) := by
  rw [List.drop_eq_getElem_cons hlt] at h
  simp only [findFrom] at h
  obtain ⟨b, hb, h⟩ := Option.bind_eq_some_iff.1 h
  refine ⟨b, hb, ?_, ?_⟩
  · rintro rfl
    rw [if_pos rfl] at h
    exact (Option.some.inj h).symm
  · rintro rfl
    rw [if_neg (by decide)] at h
    exact_mod_cast h
theorem findFrom_any {α : Type} {pf : α → Option Bool} {l : List α} : ∀ {i : Int} {b : Bool}, 0 ≤ i → anyO pf l = some b → ∃ r, findFrom pf l i = some r ∧ decide (0 ≤ r) = b := by
  induction l with
  | nil =>
    intro i b _ h
    simp only [anyO] at h
    exact ⟨-1, rfl, by rw [← Option.some.inj h]; rfl⟩
  | cons x xs ih =>
    intro i b hi h
    simp only [anyO] at h
    obtain ⟨y, hy, h⟩ := Option.bind_eq_some_iff.1 h
    cases y with
    | true =>
      rw [if_pos rfl] at h
      refine ⟨i, by simp only [findFrom, hy, Option.bind_some, if_true], ?_⟩
      rw [← Option.some.inj h]
      exact decide_eq_true hi
    | false =>
      rw [if_neg (by decide)] at h
      obtain ⟨r, hr, hd⟩ := ih (i := i + 1) (by omega) h
      exact ⟨r, by simp only [findFrom, hy, Option.bind_some]; rw [if_neg (by decide)]; exact hr, hd⟩
theorem anyO_mono {α : Type} {pf pg : α → Option Bool} (h : ∀ x, LeO (pf x) (pg x)) : ∀ l : List α, LeO (anyO pf l) (anyO pg l)
  | [] => LeO.refl _
  | x :: xs => by
    simp only [anyO]
    exact LeO.bind (h x) (fun b => LeO.ite (LeO.refl _) (anyO_mono h xs))
theorem findFrom_mono {α : Type} {pf pg : α → Option Bool} (h : ∀ x, LeO (pf x) (pg x)) : ∀ (l : List α) (i : Int), LeO (findFrom pf l i) (findFrom pg l i)
  | [], _ => LeO.refl _
  | x :: xs, i => by
    simp only [findFrom]
    exact LeO.bind (h x) (fun b => LeO.ite (LeO.refl _) (findFrom_mono h xs (i + 1)))
theorem kd_at_int {w : World} {k : IntKind} {A : Option Addr} {l : List Int} (h : Kd.C (Kd.int k) w A l.length l) (i : Nat) (hi : i < l.length) : ∃ ad, A = some ad ∧ w.cell? (ad.add i) = some (.int k l[i]) := by
  obtain ⟨ad, e, h2⟩ := Kd.at_int h (i : Int) (by omega) (by omega)
  refine ⟨ad, e, ?_⟩
  have : rd l (i : Int) = l[i] := by simp [rd, hi]
  rw [this] at h2
  simpa using h2

theorem info2 : (Try.prog.info? 2).map (fun i => (i.zero, i.size, i.bytes)) = some (some (.int .i64 0), 1, 8) := by kernel_rfl
-- the values' own types
def rd_L1 (xs : List (List Int)) (i : Int) : (List Int) := xs.getD i.toNat ([] : List Int)
theorem at_L1 {w : World} {A : Option Addr} {n : Nat} {xs : List (List Int)} (h : Kd.C (Kd.slice 2 (Kd.int .i64)) w A n xs) (i : Int) (h0 : 0 ≤ i) (h1 : i < n) : ∃ ad A0 c0, A = some ad ∧ w.cell? (ad.add i.toNat) = some (.slice A0 (rd_L1 xs i).length c0) ∧ (rd_L1 xs i).length ≤ c0 ∧ (Kd.int .i64).C w A0 (rd_L1 xs i).length (rd_L1 xs i) := by
  obtain ⟨ad, c, e, _, hK, hc0⟩ := Kd.C_get h ([] : List Int) i h0 h1
  have hc : ∀ j u, c[j]? = some u → w.cell? (ad.add (i.toNat * 1 + j)) = some u := hc0
  obtain ⟨A0, c0, rfl, l0, g0⟩ := hK
  exact ⟨ad, A0, c0, e, by have hq := hc 0 _ rfl; rwa [Nat.mul_one, Nat.add_zero] at hq, l0, g0⟩

end Go.Proofs.Ytemdeeepamnbcaa.PFnExactValidCurve
