/- A front of a row of the call's own: what lies behind is forgotten. -/
import Derived.Test.YtbjcgcililpfdaaGreatZN2
set_option linter.unusedVariables false
set_option linter.unusedSimpArgs false
namespace Go.Proofs.YtbjcgcililpfdaaGreat.VC
open Go Go.RowKit
open VI (stripM cutTo)
section
variable {P : Program} {W : World} {N : Nat} {E : List (Nat × Value)} {H : Hp} {d : Nat} {ty : TypeId} {pos : String} {af : Array Edge} {gd : Option (Nat × Bool)} {t : TypeId} {x y : Operand} {α : Type} {K : Kd α} {ok : Nat → Prop} {v : Value} {l : List α} {e : TypeId}
theorem cutv_id (h : IsSl v l.length) : cutv v l.length = v := by
  obtain ⟨A, c, rfl⟩ := h; rfl
theorem cutv_cut (v : Value) (a b : Nat) : cutv (cutv v a) b = cutv v b := by
  cases v <;> rfl
/-- xs[:q], told by its value. -/
theorem RdK.cutC {e : TypeId} {z : Value} {bytes : Nat} {k : IntKind} {q : Int} (hr : RdK K W H ok v l) (ht : SlT P t e z K.sz bytes) (h0 : 0 ≤ q) (h1 : q ≤ l.length) :
    RdK K W H ok (cutv v q.toNat) (l.take q.toNat) ∧ ∀ {H2 N E d x y ty pos af gd}, evl E x = some v → evl E y = some (.int k q) → HV P W N E H2 ⟨some d, .slice t x none (some y) none, ty, pos, af, gd⟩ (cutv v q.toNat) := by
  obtain ⟨css, hs, hv⟩ := hr
  obtain ⟨hl, ho, A, c, rfl, hc, hm, hA, hR⟩ := hv
  have he : sliced A 0 q.toNat c K.sz = cutv (.slice A l.length c) q.toNat := by
    simp only [sliced, cutv, Nat.zero_mul, Nat.sub_zero]
    congr 1
    split
    · rfl
    · cases A <;> simp [Addr.add]
  rw [← he]
  refine ⟨⟨css.take q.toNat, hs.take _, ?_, fun u hu => ho u ?_, A, c, ?_, ?_, hm, hA, fun ad had hpos j u hu => ?_⟩, fun hx hy => HV.cutH ht hx hy h0 (by omega)⟩
  · rw [flat_take (hs.flat (fun _ _ _ h => K.len h)).1, List.length_take, hl, List.length_take]
    have : min q.toNat l.length = q.toNat := by omega
    rw [this]
    exact Nat.min_eq_left (Nat.mul_le_mul_right _ (by omega))
  · rw [flat_take (hs.flat (fun _ _ _ h => K.len h)).1] at hu
    exact List.mem_of_mem_take hu
  · have h2 : min q.toNat l.length = q.toNat := by omega
    rw [he]
    simp only [cutv, List.length_take, h2]
  · rw [List.length_take]; omega
  · rw [flat_take (hs.flat (fun _ _ _ h => K.len h)).1, List.getElem?_take] at hu
    split at hu
    · rw [List.length_take] at hpos
      exact hR ad had (by omega) j u hu
    · cases hu
theorem SatH.less {w : World} (hw : SatH W H w) {g cap : Nat} {cells : List Value} (k : Nat) (hm : H.m g = some ⟨e, cells, cap⟩) : SatH W (H.put g ⟨e, cells.take k, cap⟩) w := by
  obtain ⟨h1, cur, h2, h3, h4⟩ := hw.own g _ hm
  have hlt := H.lt g _ hm
  refine ⟨hw.below, ?_, fun b x hx => ?_, hw.dr⟩
  · have := hw.bd
    simp only [Hp.put]; omega
  · simp only [Hp.put] at hx
    split at hx
    · rename_i hb
      subst hb
      cases hx
      refine ⟨h1, cur, h2, h3, ?_⟩
      simp only at h4 ⊢
      show cur.toList.take (cells.take k).length = cells.take k
      rw [List.length_take]
      conv => rhs; rw [← h4, List.take_take]
    · exact hw.own b x hx
theorem OwnK.cutO {w : World} (hF : Flat K) (hw : SatH W H w) (ho : OwnK K e W H ok v l) {k : Nat} (hk : k ≤ l.length) : ∃ H', SatH W H' w ∧ But (fun b => some b = v.ownBlock) H H' ∧ OwnK K e W H' ok (cutv v k) (l.take k) := by
  obtain ⟨css, h1, h2⟩ := ho
  obtain ⟨i1, i2, i3⟩ := h2
  have hf := (h1.flat (fun _ _ _ h => K.len h)).1
  rcases i3 with ⟨rfl, h0⟩ | ⟨g, c, rfl, hg, hA, hc, hm⟩
  · obtain rfl : k = 0 := by omega
    exact ⟨H, hw, But.refl _ _, by simpa [cutv] using OwnK.nil (K := K) (e := e) ok⟩
  · refine ⟨_, hw.less (k * K.sz) hA.m, (H.put_but _ _).mono (fun b hb => by rw [hb]; rfl), css.take k, ⟨by rw [List.length_take, List.length_take, h1.1], fun i x cs hx hcs => ?_⟩, ?_, fun u hu => i2 u ?_, .inr ⟨g, c, ?_, hg, ⟨?_, hA.w⟩, by rw [List.length_take]; omega, hm⟩⟩
    · rw [List.getElem?_take] at hx hcs
      split at hx
      · rename_i hik
        rw [if_pos hik] at hcs
        exact hF _ _ _ _ _ _ _ (h1.2 i x cs hx hcs)
      · cases hx
    · rw [flat_take hf, List.length_take, i1, List.length_take]
      rw [show min k l.length = k by omega]
      exact Nat.min_eq_left (Nat.mul_le_mul_right _ (by omega))
    · rw [flat_take hf] at hu
      exact List.mem_of_mem_take hu
    · simp only [cutv, List.length_take]
      rw [show min k l.length = k by omega]
    · rw [flat_take hf]; exact Hp.put_self _ _ _
end
theorem cutTo_take (l : List Int) : ∀ n, n ≤ l.length → cutTo l n = l.take (cutTo l n).length
  | 0, _ => by simp [cutTo]
  | n + 1, h => by
    unfold cutTo
    split
    · exact cutTo_take l n (by omega)
    · rw [List.length_take, show min (n + 1) l.length = n + 1 by omega]
theorem stripM_take (l : List Int) : stripM l = l.take (stripM l).length := cutTo_take l l.length (Nat.le_refl _)
theorem stripM_le (l : List Int) : (stripM l).length ≤ l.length := by
  have q := stripM_take l
  rw [q, List.length_take]; omega
/-- A row of the call's own is stripped: it stays the call's own. -/
theorem strip_own {P : Program} {W : World} {H : Hp} {F : Nat} {v : Value} {l : List Int} {ok : Nat → Prop} {e : Nat} (ho : OwnK kI e W H ok v l) (h : ACalls P W F #[v] H (fun r H' => r = cutv v (stripM l).length ∧ Ext H H')) :
    ACalls P W F #[v] H (fun r H' => But (fun b => some b = v.ownBlock) H H' ∧ OwnK kI e W H' ok r (stripM l)) := fun w hw => by
  refine Calls.mono (h w hw) fun e w' h => ?_
  obtain ⟨r, H', he, hs, rfl, hx⟩ := h
  obtain ⟨H2, s2, b2, o2⟩ := OwnK.cutO kI_flat hs (ho.ext hx) (stripM_le l)
  rw [← stripM_take] at o2
  exact ⟨_, H2, he, s2, But.trans (hx.but _) b2, o2⟩
end Go.Proofs.YtbjcgcililpfdaaGreat.VC

