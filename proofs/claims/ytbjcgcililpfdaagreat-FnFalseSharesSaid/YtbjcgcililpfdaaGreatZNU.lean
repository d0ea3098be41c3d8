/- The tail of a row, read by index. -/
import Derived.Test.YtbjcgcililpfdaaGreatZNT
set_option linter.unusedVariables false
set_option linter.unusedSimpArgs false
namespace Go.Proofs.YtbjcgcililpfdaaGreat.VC
open Go Go.RowKit
variable {P : Program} {W : World} {N : Nat} {E : List (Nat × Value)} {H : Hp} {d : Nat} {ty : TypeId} {pos : String} {af : Array Edge} {gd : Option (Nat × Bool)} {t : TypeId} {x y : Operand} {e : TypeId} {z : Value} {bytes g n c : Nat}
theorem HV.tail {k : IntKind} {q : Int} (ht : SlT P t e z 1 bytes) (hx : evl E x = some (.slice (some ⟨g, 0, none⟩) n c)) (hy : evl E y = some (.int k q)) (h0 : 0 ≤ q) (h1 : q < n) (hc : n ≤ c) :
    HV P W N E H ⟨some d, .slice t x (some y) none none, ty, pos, af, gd⟩ (.slice (some ⟨g, q.toNat, none⟩) (n - q.toNat) (c - q.toNat)) := by
  have hh := HV.cutL (P := P) (W := W) (H := H) (N := N) (d := d) (ty := ty) (pos := pos) (af := af) (gd := gd) ht hx hy h0 (by omega)
  have e1 : sliced (some ⟨g, 0, none⟩) q.toNat n c 1 = .slice (some ⟨g, q.toNat, none⟩) (n - q.toNat) (c - q.toNat) := by
    unfold sliced
    split
    · omega
    · simp [add_at]
  rw [e1] at hh; exact hh
theorem HV.ixTail {k : IntKind} {q : Int} {k0 : Nat} (ht : SlT P t e z 1 bytes) (h0 : 0 ≤ q) (h1 : k0 + q < n) (hx : evl E x = some (.slice (some ⟨g, k0, none⟩) (n - k0) c)) (hy : evl E y = some (.int k q)) :
    HV P W N E H ⟨some d, .indexAddr t x y, ty, pos, af, gd⟩ (.pointer (some ⟨g, (k0 + q.toNat) * 1, none⟩)) := by
  have hh := HV.ix (P := P) (W := W) (H := H) (N := N) (d := d) (ty := ty) (pos := pos) (af := af) (gd := gd) (ad := ⟨g, k0, none⟩) ht h0 (by omega) hx hy
  simp only [add_at] at hh
  rw [show (k0 + q.toNat) * 1 = k0 + q.toNat * 1 by omega]
  exact hh
theorem HV.front {k : IntKind} {q : Int} (ht : SlT P t e z 1 bytes) (hx : evl E x = some (.slice (some ⟨g, 0, none⟩) n c)) (hy : evl E y = some (.int k q)) (h0 : 0 ≤ q) (h1 : q ≤ c) :
    HV P W N E H ⟨some d, .slice t x none (some y) none, ty, pos, af, gd⟩ (.slice (some ⟨g, 0, none⟩) q.toNat c) := by
  have hh := HV.cutH (P := P) (W := W) (H := H) (N := N) (d := d) (ty := ty) (pos := pos) (af := af) (gd := gd) ht hx hy h0 h1
  have e1 : sliced (some ⟨g, 0, none⟩) 0 q.toNat c 1 = .slice (some ⟨g, 0, none⟩) q.toNat c := by
    unfold sliced
    split <;> simp [add_at]
  rw [e1] at hh; exact hh
end Go.Proofs.YtbjcgcililpfdaaGreat.VC

