-- By xprint.py and given.py (wip/gen): the kit's print of this seat, some functions' contracts given.
import Derived.Test.YtonpikcbmgmchaaVFnSecrecy
import Derived.Test.YtonpikcbmgmchaaProg
import Derived.Below
import Derived.Deep.Draws
import Derived.Deep.AppendLies
import Derived.Maps.AppendAt
import Derived.OwnWalk
import Derived.Laws.BytesArg
import Derived.Laws.MakeOwn
import Derived.Laws.OwnMore
import Derived.Deep.OwnRows
import Derived.Tactics
import Derived.Lib.ConvBytes
import Derived.Laws.Slices
import Derived.WalkKit
import Derived.KernelRfl
import Derived.RowKit3
import Derived.Deep.LoopGhost
import Derived.Deep.QuietTactic
import Derived.BigQuiet
import Derived.WideLaws
import Derived.Deep.DeepCutAuto
import Derived.Deep.CutBlock
import Derived.Deep.RegionHeld3
import Derived.Laws.Rows
import Derived.Lib.AppendStr
import Derived.ArgAppend
import Derived.Laws.IdiomCopy
import Derived.OrdersHeld
import Derived.Laws.BitsLemmas
import Derived.RowKit
import Derived.Shelf.Abstract
import Derived.Lib.SliceRun
namespace Go.Proofs.Ytonpikcbmgmchaa.PFnSecrecy
open Go.RowKit Go.Proofs.YtonpikcbmgmchaaW.PrintWords Go.Proofs.YtonpikcbmgmchaaW.PrintLast Go.Proofs.YtonpikcbmgmchaaW.PrintMore
attribute [local go_sem] max2_int min2_int max_two min_two max_three min_three max_four min_four   -- for this text's walks alone
set_option linter.unusedVariables false
set_option linter.unusedSimpArgs false



def errW : Option Int → Value
 | none => .nilIface
 | some c => .iface 0 (.int .i64 c)
theorem errW_none : errW none = .nilIface := rfl
theorem errW_some (c : Int) : errW (some c) = .iface 0 (.int .i64 c) := rfl

/-- A pointer that is only read, told as a row of one. -/
theorem C_ptr {α : Type} {d : Kd α} {w : World} {ad : Addr} {x : α} {cs : List Value} (hK : d.K w x cs) (hc : ∀ i u, cs[i]? = some u → w.cell? (ad.add i) = some u) : Kd.C d w (some ad) 1 [x] := by
 refine ⟨rfl, by decide, fun _ => ⟨ad, rfl, fun j p hp => ?_⟩⟩
 cases j with
 | zero =>
  simp only [List.getElem?_cons_zero, Option.some.injEq] at hp
  subst hp
  exact ⟨cs, d.K_len hK, hK, fun i u hu => by rw [Nat.zero_mul, Nat.zero_add]; exact hc i u hu⟩
 | succ j => simp at hp
theorem C_one {α : Type} {d : Kd α} {w : World} {ad : Addr} {x : α} (h : Kd.C d w (some ad) 1 [x]) : ∃ cs, d.K w x cs ∧ ∀ i u, cs[i]? = some u → w.cell? (ad.add i) = some u := by
 obtain ⟨_, _, h⟩ := h
 obtain ⟨ad', e, h⟩ := h (by decide)
 cases e
 obtain ⟨c, _, hK, hc⟩ := h 0 x rfl
 exact ⟨c, hK, fun i u hu => by have := hc i u hu; rwa [Nat.zero_mul, Nat.zero_add] at this⟩
theorem C_elem {α : Type} {d : Kd α} {w : World} {ad : Addr} {n : Nat} {xs : List α} (h : Kd.C d w (some ad) n xs) (z : α) (i : Int) (h0 : 0 ≤ i) (h1 : i < n) : Kd.C d w (some (ad.add (i.toNat * d.sz))) 1 [xs.getD i.toNat z] := by
 obtain ⟨ad', c, e, _, hK, hc⟩ := Kd.C_get h z i h0 h1
 cases e
 refine C_ptr hK fun j u hu => ?_
 have := hc j u hu
 rcases Nat.eq_zero_or_pos j with rfl | hj
 ·rwa [Nat.add_zero] at this
 ·rw [add_field _ _ j hj] at this
  unfold Addr.add at this ⊢
  rw [if_neg (by omega)]
  exact this
theorem C_box {α : Type} {d : Kd α} {W : World} {b T0 : Nat} {cs : Array Value} {x : α} (o : Nat) (l : List Value) (hb : W.heap[b]? = some (.cells cs T0 (0, 0))) (hl : (cs.toList.drop o).take l.length = l) (hK : d.K W x l) : Kd.C d W (some ⟨b, o, none⟩) 1 [x] := by
 refine C_ptr hK fun i u hu => ?_
 rw [add_at]
 refine (blk_cell hb (o + i)).trans ?_
 have h2 : l[i]? = cs[o + i]? := by
  have hlt : i < l.length := by
   rcases Nat.lt_or_ge i l.length with h | h
   ·exact h
   ·rw [List.getElem?_eq_none h] at hu; cases hu
  rw [← hl, List.getElem?_take, if_pos (by simpa [hl] using hlt), List.getElem?_drop]
  simp
 rw [← h2]; exact hu
theorem C_iso {α β : Type} {d : Kd α} {f : β → α} {w : World} {A : Option Addr} {x : β} (h : Kd.C (Kd.iso d f) w A 1 [x]) : Kd.C d w A 1 [f x] := by
 obtain ⟨_, _, h'⟩ := id h
 obtain ⟨ad, rfl, _⟩ := h' (by decide)
 obtain ⟨cs, hK, hc⟩ := C_one h
 exact C_ptr (d := d) hK hc
theorem C_left {α β : Type} {a : Kd α} {b : Kd β} {w : World} {ad : Addr} {x : α × β} (h : Kd.C (Kd.pair a b) w (some ad) 1 [x]) : Kd.C a w (some ad) 1 [x.1] := by
 obtain ⟨cs, ⟨c0, c1, rfl, h0, h1⟩, hc⟩ := C_one h
 refine C_ptr h0 fun i u hu => hc i u ?_
 have hlt : i < c0.length := by
  rcases Nat.lt_or_ge i c0.length with h | h
  ·exact h
  ·rw [List.getElem?_eq_none h] at hu; cases hu
 rw [List.getElem?_append_left hlt]; exact hu
theorem C_right {α β : Type} {a : Kd α} {b : Kd β} {w : World} {ad : Addr} {x : α × β} (h : Kd.C (Kd.pair a b) w (some ad) 1 [x]) (ha : 0 < a.sz) : Kd.C b w (some ⟨ad.block, ad.off + a.sz, none⟩) 1 [x.2] := by
 obtain ⟨cs, ⟨c0, c1, rfl, h0, h1⟩, hc⟩ := C_one h
 refine C_ptr h1 fun i u hu => ?_
 have := hc (a.sz + i) u (by rw [← a.K_len h0, List.getElem?_append_right (by omega), Nat.add_sub_cancel_left]; exact hu)
 rw [add_at]
 unfold Addr.add at this
 rw [if_neg (by omega)] at this
 rw [← Nat.add_assoc] at this
 exact this
/-- A slice's value, its length told anew. -/
@[reducible] def cutV : Value → Nat → Value
 | .slice A _ c, m => .slice A m c
 | v, _ => v
/-- What was written last is what is read. -/
theorem rd_last {α : Type} {z : α} {y l : List α} {i : Int} {v : α} {n : Nat} (he : y = l.set i.toNat v) (hn : n = y.length) (h0 : 0 ≤ i) (h1 : i < (n : Int)) : rdOf z y i = v := by
 subst he
 rw [List.length_set] at hn
 unfold rdOf
 rw [List.getD_eq_getElem?_getD, List.getElem?_set_self (by omega)]
 rfl
/-- Short names for proofs that stand at many places. -/
theorem A1_ {p : Prop} [Decidable p] (h : decide p = true := by first | (with_reducible assumption) | assumption) : p := of_decide_eq_true h
theorem B_ {p : Prop} (h : p := by repeat (first | (with_reducible first | exact HB.out | apply below_alloc | apply pw_below_drewN | apply below_drew1) | exact HB.out)) : p := h
theorem K_ {p : Prop} (h : p := by repeat (first | (with_reducible first | exact HK.out | apply Kept.alloc | apply Kept.drewN | apply Kept.drew) | exact HK.out)) : p := h
theorem G_ {p : Prop} (h : p := by (try simp only [List.map_toArray, List.map_cons, List.map_nil]); first | done | rfl | (simp only [List.length_drop, List.length_take]; rfl)) : p := h
theorem R_ {p : Prop} (h : p := by first | rfl | (simp; done) | (simp [*]; done)) : p := h

theorem info2 : (Try.prog.info? 2).map (fun i => (i.zero, i.size, i.bytes)) = some (some (.int .i64 0), 1, 8) := by kernel_rfl
theorem info68 : (Try.prog.info? 68).map (fun i => (i.zero, i.size, i.bytes)) = some (some (.agg #[(.int .i64 0), (.int .i64 0)]), 2, 16) := by kernel_rfl
-- the values' own types
/-! #### struct type 68 -/
structure S68 where
 f0 : Int
 f1 : Int
def z68 : S68 := ⟨(0 : Int), (0 : Int)⟩
def k68 : Kd S68 := Kd.iso (Kd.pair (Kd.int .i64) (Kd.int .i64)) (fun x : S68 => (x.f0, x.f1))
theorem k68_open {w : World} {x : S68} {cs : List Value} (h : k68.K w x cs) : cs = [.int .i64 x.f0, .int .i64 x.f1] := by
 obtain ⟨_, _, rfl, rfl, rfl⟩ := h
 exact rfl
theorem k68_openM {w : World} {base : Nat} {ok : Nat → Prop} {x : S68} {cs : List Value} (h : k68.M w base ok x cs) : cs = [.int .i64 x.f0, .int .i64 x.f1] := by
 obtain ⟨_, _, rfl, rfl, rfl⟩ := h
 exact rfl
theorem k68_mk (w : World) (x : S68)  : k68.K w x [.int .i64 x.f0, .int .i64 x.f1] := ⟨[.int .i64 x.f0], [.int .i64 x.f1], rfl, rfl, rfl⟩
theorem k68_mkM (w : World) (base : Nat) (ok : Nat → Prop) (x : S68)  : k68.M w base ok x [.int .i64 x.f0, .int .i64 x.f1] := ⟨[.int .i64 x.f0], [.int .i64 x.f1], rfl, rfl, rfl⟩
def rd_T68 (xs : List S68) (i : Int) : S68 := xs.getD i.toNat z68
theorem at_T68 {w : World} {A : Option Addr} {n : Nat} {xs : List S68} (h : Kd.C k68 w A n xs) (i : Int) (h0 : 0 ≤ i) (h1 : i < n) : ∃ ad , A = some ad ∧ w.cell? (ad.add (i.toNat * 2)) = some (.int .i64 (rd_T68 xs i).f0) ∧ w.cell? ⟨(ad.add (i.toNat * 2)).block, (ad.add (i.toNat * 2)).off + 1, none⟩ = some (.int .i64 (rd_T68 xs i).f1) := by
 obtain ⟨ad, c, e, _, hK, hc0⟩ := Kd.C_get h z68 i h0 h1
 have hc : ∀ j u, c[j]? = some u → w.cell? (ad.add (i.toNat * 2 + j)) = some u := hc0
 obtain rfl := k68_open hK
 exact ⟨ad, e, hc 0 _ rfl, by rw [← add_field _ _ 1 (by omega)]; exact hc 1 _ rfl⟩

end Go.Proofs.Ytonpikcbmgmchaa.PFnSecrecy
