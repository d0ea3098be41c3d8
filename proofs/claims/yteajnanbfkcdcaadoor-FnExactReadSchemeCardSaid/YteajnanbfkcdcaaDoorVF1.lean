/- Walks. -/
import Derived.Test.YteajnanbfkcdcaaDoorVF
import Derived.Test.YteajnanbfkcdcaaDoorVST
set_option linter.unusedVariables false
set_option linter.unusedSimpArgs false
namespace Go.Proofs.YteajnanbfkcdcaaDoor.VC
open Go Go.RowKit
/-- A number below a hundred. -/
def decL (a : Int) : List Int := if 10 ≤ a then [48 + a / 10, 48 + a % 10] else [48 + a]
variable {W : World} {H : Hp}

set_option maxRecDepth 100000 in
theorem small_ok (a : Int) (ha : 0 ≤ a ∧ a < 100) : ACalls Tryd.prog W 78 #[.int .i64 a] H (fun r H' => r = .string (bytesOf (decL a)) ∧ Ext H H') := by
  refine ACalls.of (args := [.int .i64 a]) Tryd.func78 rfl rfl ?_
  have X0 := Ext.refl H
  refine AW.rs ?_
  refine AL.val rfl (.inl rfl) (HV.as rfl) ?_
  refine AL.nx ?_
  refine AW.seq ?_
  refine AW.rs ?_
  refine AL.val rfl (.inl rfl) (HV.mv rfl) ?_
  refine AL.val rfl (.inl rfl) (HV.lti rfl rfl) ?_
  refine AL.nx ?_
  refine AW.ifd rfl (fun c1 => ?_) (fun c1 => ?_)
  · -- then
    refine AW.rs ?_
    refine AL.val rfl (.inl rfl) (HV.mv rfl) ?_
    refine AL.val rfl (.inl rfl) (HV.mv rfl) ?_
    refine AL.val rfl (.inl rfl) (HV.add rfl rfl (by omega)) ?_
    refine AL.val rfl (.inl rfl) (HV.sls Tryd.underlying9 rfl rfl rfl (by omega) (by omega) (Int.le_trans (show a + 1 ≤ ((10 : Nat) : Int) by omega) (Int.ofNat_le.2 (by decide +kernel)))) ?_
    refine AL.val rfl (.inl rfl) (HV.as rfl) ?_
    refine AL.nx ?_
    refine AW.ret ?_
    refine ret_and ?_
    refine post_one rfl rfl ?_ (.inr rfl)
    refine ⟨?_, X0⟩; (
    have hcs : a = 0 ∨ a = 1 ∨ a = 2 ∨ a = 3 ∨ a = 4 ∨ a = 5 ∨ a = 6 ∨ a = 7 ∨ a = 8 ∨ a = 9 := by omega
    rcases hcs with rfl | rfl | rfl | rfl | rfl | rfl | rfl | rfl | rfl | rfl <;> rfl)
  · -- else
    refine AW.skip ?_
    refine nrm_and ?_
    refine AW.rs ?_
    refine AL.val rfl (.inl rfl) (HV.mv rfl) ?_
    refine AL.val rfl (.inl rfl) (HV.mul rfl rfl (by omega)) ?_
    refine AL.val rfl (.inl rfl) (HV.mv rfl) ?_
    refine AL.val rfl (.inl rfl) (HV.mul rfl rfl (by omega)) ?_
    refine AL.val rfl (.inl rfl) (HV.add rfl rfl (by omega)) ?_
    refine AL.val rfl (.inl rfl) (HV.sls Tryd.underlying9 rfl rfl rfl (by omega) (by omega) (Int.le_trans (show a * 2 + 2 ≤ ((200 : Nat) : Int) by omega) (Int.ofNat_le.2 (by decide +kernel)))) ?_
    refine AL.val rfl (.inl rfl) (HV.as rfl) ?_
    refine AL.nx ?_
    refine AW.ret ?_
    refine post_one rfl rfl ?_ (.inr rfl)
    refine ⟨?_, X0⟩; (
    have hcs : a = 10 ∨ a = 11 ∨ a = 12 ∨ a = 13 ∨ a = 14 ∨ a = 15 ∨ a = 16 ∨ a = 17 ∨ a = 18 ∨ a = 19 ∨ a = 20 ∨ a = 21 ∨ a = 22 ∨ a = 23 ∨ a = 24 ∨ a = 25 ∨ a = 26 ∨ a = 27 ∨ a = 28 ∨ a = 29 ∨ a = 30 ∨ a = 31 ∨ a = 32 ∨ a = 33 ∨ a = 34 ∨ a = 35 ∨ a = 36 ∨ a = 37 ∨ a = 38 ∨ a = 39 ∨ a = 40 ∨ a = 41 ∨ a = 42 ∨ a = 43 ∨ a = 44 ∨ a = 45 ∨ a = 46 ∨ a = 47 ∨ a = 48 ∨ a = 49 ∨ a = 50 ∨ a = 51 ∨ a = 52 ∨ a = 53 ∨ a = 54 ∨ a = 55 ∨ a = 56 ∨ a = 57 ∨ a = 58 ∨ a = 59 ∨ a = 60 ∨ a = 61 ∨ a = 62 ∨ a = 63 ∨ a = 64 ∨ a = 65 ∨ a = 66 ∨ a = 67 ∨ a = 68 ∨ a = 69 ∨ a = 70 ∨ a = 71 ∨ a = 72 ∨ a = 73 ∨ a = 74 ∨ a = 75 ∨ a = 76 ∨ a = 77 ∨ a = 78 ∨ a = 79 ∨ a = 80 ∨ a = 81 ∨ a = 82 ∨ a = 83 ∨ a = 84 ∨ a = 85 ∨ a = 86 ∨ a = 87 ∨ a = 88 ∨ a = 89 ∨ a = 90 ∨ a = 91 ∨ a = 92 ∨ a = 93 ∨ a = 94 ∨ a = 95 ∨ a = 96 ∨ a = 97 ∨ a = 98 ∨ a = 99 := by omega
    rcases hcs with rfl | rfl | rfl | rfl | rfl | rfl | rfl | rfl | rfl | rfl | rfl | rfl | rfl | rfl | rfl | rfl | rfl | rfl | rfl | rfl | rfl | rfl | rfl | rfl | rfl | rfl | rfl | rfl | rfl | rfl | rfl | rfl | rfl | rfl | rfl | rfl | rfl | rfl | rfl | rfl | rfl | rfl | rfl | rfl | rfl | rfl | rfl | rfl | rfl | rfl | rfl | rfl | rfl | rfl | rfl | rfl | rfl | rfl | rfl | rfl | rfl | rfl | rfl | rfl | rfl | rfl | rfl | rfl | rfl | rfl | rfl | rfl | rfl | rfl | rfl | rfl | rfl | rfl | rfl | rfl | rfl | rfl | rfl | rfl | rfl | rfl | rfl | rfl | rfl | rfl <;> rfl)
end Go.Proofs.YteajnanbfkcdcaaDoor.VC
