/- A strings.Builder of the call's own: its pointer to itself, bytes put behind, the text taken out. -/
import Derived.Test.YtfjihanfiliniaaDoorVST
import Derived.Test.YtfjihanfiliniaaDoorVS
import Derived.Lib.Builder
import Derived.Lib.AppendStr
import Derived.Lib.UnsafeStr
import Derived.Laws.Externs
set_option linter.unusedVariables false
set_option linter.unusedSimpArgs false
namespace Go.Proofs.YtfjihanfiliniaaDoor.VC
open Go Go.RowKit
variable {P : Program} {W : World} {N : Nat} {E : List (Nat × Value)} {H : Hp}
section
variable {d : Nat} {ty : TypeId} {pos : String} {af : Array Edge} {gd : Option (Nat × Bool)} {t s : TypeId} {x y : Operand}
/-- A pointer against nil. -/
theorem HV.eqn {A : Option Addr} {te t' : TypeId} {j : TypeInfo} (ht : P.underlying t = some (.pointer te)) (hj : P.info? te = some j) (hx : evl E x = some (.pointer A)) (hy : evl E y = some (.pointer none)) : HV P W N E H ⟨some d, .binOp .eql t x y t', ty, pos, af, gd⟩ (.bool A.isNone) := fun a w ha hw => by
  have h : ∀ d : Nat, (Op.equalIn (d + 1) t (.pointer A) (.pointer none)).run P w = .ok A.isNone w := fun d => by
    cases A <;> simp [Op.equalIn, run_underlying ht, sizeOf, typeInfo, hj, sameAddr]
  simp [execOp, ha.ev hx, ha.ev hy, eqGuard, binOp, Op.equal, Op.maxDepth, h 9999]
theorem HV.nes' {A : Addr} {te t' : TypeId} {j : TypeInfo} (ht : P.underlying t = some (.pointer te)) (hj : P.info? te = some j) (hx : evl E x = some (.pointer (some A))) (hy : evl E y = some (.pointer (some A))) : HV P W N E H ⟨some d, .binOp .neq t x y t', ty, pos, af, gd⟩ (.bool false) := fun a w ha hw => by
  have h := Lib.run_neq_ptr_same (P := P) w A ht hj
  simp [execOp, ha.ev hx, ha.ev hy, eqGuard, h]
theorem HV.toU {b n : Nat} {te e : TypeId} {cs : List Value} {j : TypeInfo} (hs : P.underlying s = some (.pointer te)) (hd : P.underlying t = some .unsafePointer) (hj : P.info? te = some j) (hz : j.size ≠ 0) (hx : evl E x = some (.pointer (some ⟨b, 0, none⟩))) (hb : At W H b ⟨e, cs, n⟩) (hn : 0 < n) :
    HV P W N E H ⟨some d, .convert s t x, ty, pos, af, gd⟩ (.pointer (some ⟨b, 0, none⟩)) := fun a w ha hw => by
  have h := Lib.run_to_unsafe (P := P) w ⟨b, 0, none⟩ hs hd hj hz (hw.shape hb).1 hn
  simp [execOp, ha.ev hx, h]
theorem HV.fromU {b n : Nat} {te e : TypeId} {cs : List Value} {j : TypeInfo} (hs : P.underlying s = some .unsafePointer) (hd : P.underlying t = some (.pointer te)) (hj : P.info? te = some j) (hx : evl E x = some (.pointer (some ⟨b, 0, none⟩))) (hb : At W H b ⟨e, cs, n⟩) (hl : liesAt P P.depth e (n / P.cellsOf e) 0 te 1 = true) :
    HV P W N E H ⟨some d, .convert s t x, ty, pos, af, gd⟩ (.pointer (some ⟨b, 0, none⟩)) := fun a w ha hw => by
  have h := Lib.run_from_unsafe (P := P) w ⟨b, 0, none⟩ hs hd hj (hw.shape hb).1 hl
  simp [execOp, ha.ev hx, h]
theorem HV.usd {A : Addr} {n c : Nat} {ts : Array TypeId} (hx : evl E x = some (.slice (some A) n c)) (hc : c ≠ 0) : HV P W N E H ⟨some d, .call { callee := .builtin .unsafeSliceData, args := #[x], argTypes := ts }, ty, pos, af, gd⟩ (.pointer (some A)) := fun a w ha hw => by
  have h := Lib.run_unsafeSliceData_row (P := P) (w := w) ts ty A n c hc
  simp [execOp, resolve, invoke, builtin, ha.ev hx, h]
/-- Bytes of a text behind a row of bytes. -/
theorem WV.aps {ok : Nat → Prop} {e u : TypeId} {n : Nat} {v : Value} {xs : List Value} {str : ByteArray} (ht : SlT P t e (.int .u8 0) 1 1) (hu : P.underlying u = some .string) (hx : evl E x = some v) (hy : evl E y = some (.string str)) (hv : OwnV W H ok e 1 v n xs) (hb : n + str.size ≤ 140737488355328) :
    WV P W N E H ⟨some d, .call { callee := .builtin .append, args := #[x, y], argTypes := #[t, u] }, ty, pos, af, gd⟩
      (fun v' H' => But (fun b => some b = v.ownBlock) H H' ∧ OwnV W H' (fun b => some b = v.ownBlock ∨ H.bd ≤ b) e 1 v' (n + str.size) (xs ++ Lib.strCells str)) := WV.of (fun a w ha hw => by
  obtain ⟨hus, ⟨i, hi, hz, hs, hby⟩, hzc, hp⟩ := ht
  have hown := hv.owns hw
  obtain ⟨v', w', hrun, ho, hgr, hiff⟩ := Lib.run_append_own_string (P := P) w W.heap.size t u ty e i hus hu hi hz hs hby v n xs hown str (by simp only [maxLen]; omega) hb hw.below.size
  have hat : v'.ownBlock = v.ownBlock ∨ v'.ownBlock = some w.heap.size := by
    obtain ⟨hxl, hcase⟩ := hown
    rcases hcase with ⟨rfl, rfl⟩ | ⟨g, cap, cur, rfl, hbg, hg, hnc, hcm, hcs, htake⟩
    · by_cases hm : str.size = 0
      · rw [hiff.2 ⟨rfl, hm⟩]; exact .inl rfl
      · have h2 := run_append_nil_string (P := P) w t u ty e i (.int .u8 0) hus hu hi hz str (by omega) (by omega) (by rw [hby]; omega)
        rw [h2] at hrun
        cases hrun
        exact .inr rfl
    · by_cases hroom : n + str.size ≤ cap
      · have h2 := Lib.run_append_room_string (P := P) w t u ty e i hus hu hi hs g n cap cur hg str hroom (by omega)
        rw [h2] at hrun
        cases hrun
        exact .inl rfl
      · have h2 := Lib.run_append_grow_string (P := P) w t u ty e i (.int .u8 0) hus hu hi hz ⟨g, 0, none⟩ n cap xs (by rw [hs]; simpa using hxl) (World.ownsRow.cells (g := g) (v := .slice (some ⟨g, 0, none⟩) n cap) ⟨hxl, .inr ⟨g, cap, cur, rfl, hbg, hg, hnc, hcm, hcs, htake⟩⟩ rfl) str (by omega) (by omega) (by rw [hby]; exact growslice_fits (by omega) (by omega))
        rw [h2] at hrun
        cases hrun
        exact .inr rfl
  have hall : ∀ z ∈ xs ++ Lib.strCells str, z.oneCell' = true := fun z hz' => by
    rcases List.mem_append.1 hz' with h | h
    · exact hv.one z h
    · exact Lib.strCells_oneCell str z h
  obtain ⟨H', g1, g2, g3⟩ := hw.grown hgr (fun k hk => (hv.blk k hk.symm).2.2) hall ho hat
  exact ⟨v', w', H', by simp [execOp, resolve, invoke, builtin, ha.ev hx, ha.ev hy, hrun], g1, g2.mono (fun b hb => hb), g3.ok (fun b hb _ => hb)⟩)
/-- Nothing is known of a block. -/
def Hp.drop (H : Hp) (g : Nat) : Hp := ⟨fun b => if b = g then none else H.m b, H.bd, fun b x hb => by
  split at hb
  · cases hb
  · exact H.lt b x hb⟩
theorem Hp.drop_but (H : Hp) (g : Nat) : But (fun b => b = g) H (H.drop g) := ⟨Nat.le_refl _, fun b x hb hn => by simp only [Hp.drop]; rw [if_neg hn]; exact hb⟩
theorem SatH.freeze {w : World} (hw : SatH W H w) {g : Nat} (hg : W.heap.size ≤ g) (n : Nat) : SatH W (H.drop g) (w.freeze ⟨g, 0, none⟩ n) := by
  refine ⟨Lib.below_freeze hw.below hg n, ?_, fun b x hb => ?_⟩
  · have : (w.freeze ⟨g, 0, none⟩ n).heap.size = w.heap.size := by
      unfold World.freeze; split <;> simp
    rw [this]; exact hw.bd
  · simp only [Hp.drop] at hb
    split at hb
    · cases hb
    · rename_i hne
      obtain ⟨h1, cur, h2, h3⟩ := hw.own b x hb
      refine ⟨h1, cur, ?_, h3⟩
      unfold World.freeze
      split
      · exact h2
      · simp only [Array.getElem?_modify]
        rw [if_neg (fun q => hne q.symm)]
        exact h2
theorem WV.ust {g n e pt it : Nat} {str : ByteArray} (hp : P.underlying pt = some (.pointer e)) (hc : P.cellsOf e = 1) (hx : evl E x = some (.pointer (some ⟨g, 0, none⟩))) (hy : evl E y = some (.int .i64 (str.size : Int))) (hb : At W H g ⟨e, Lib.strCells str, n⟩) (h0 : 0 < str.size) (hn : str.size ≤ n) (hm : str.size ≤ 9223372036854775807) :
    WV P W N E H ⟨some d, .call { callee := .builtin .unsafeString, args := #[x, y], argTypes := #[pt, it] }, ty, pos, af, gd⟩ (fun v H' => v = .string str ∧ But (fun b => b = g) H H') := WV.of (fun a w ha hw => by
  have hsz : str.data.toList.length = str.size := Array.length_toList
  have h := Lib.run_unsafeString_row (P := P) w pt it ty e hp hc g n (hw.shape hb).1 str.data.toList (fun q => by rw [q] at hsz; simp at hsz; omega) (by rw [hsz]; exact hn) (by rw [hsz]; exact hm) (fun j u hj => by
    have := hw.cell (W := W) (H := H) (p := (⟨g, 0, none⟩ : Addr).add j) (v := .int .u8 u.toNat) (by rw [add_at, Nat.zero_add]; exact hb.rd (by simp [Lib.strCells, hj]))
    exact this)
  rw [hsz] at h
  refine ⟨.string str, _, H.drop g, ?_, hw.freeze hb.w str.size, rfl, H.drop_but g⟩
  simp [execOp, resolve, invoke, builtin, ha.ev hx, ha.ev hy, h])
end
end Go.Proofs.YtfjihanfiliniaaDoor.VC
