/- What is read out of a text. -/
import Derived.Test.YteajnanbfkcdcaaDoorVF2
import Derived.Lib.ParseIntB
import Derived.Lib.ItoaMem
set_option linter.unusedVariables false
set_option linter.unusedSimpArgs false
namespace Go.Proofs.YteajnanbfkcdcaaDoor.VC
open Go Go.RowKit
/-! ### Texts that are cut at a byte -/
def spI (c : Int) : List Int → List (List Int)
  | [] => [[]]
  | x :: t => if x = c then [] :: spI c t else (x :: (spI c t).headD []) :: (spI c t).tail
theorem spI_cons (c x : Int) (t : List Int) : spI c (x :: t) = if x = c then [] :: spI c t else (x :: (spI c t).headD []) :: (spI c t).tail := rfl
theorem spI_ne (c : Int) : ∀ l, spI c l ≠ []
  | [] => by simp [spI]
  | x :: t => by unfold spI; split <;> simp
theorem spI_free {c : Int} : ∀ {a : List Int}, (∀ x ∈ a, x ≠ c) → spI c a = [a]
  | [], _ => rfl
  | x :: t, h => by
    unfold spI
    rw [if_neg (h x List.mem_cons_self), spI_free (fun y hy => h y (List.mem_cons_of_mem _ hy))]
    rfl
theorem spI_app {c : Int} : ∀ {a : List Int} (b : List Int), (∀ x ∈ a, x ≠ c) → spI c (a ++ c :: b) = a :: spI c b
  | [], b, _ => by show spI c (c :: b) = _; rw [spI_cons, if_pos rfl]
  | x :: t, b, h => by
    show spI c (x :: (t ++ c :: b)) = _
    rw [spI_cons, if_neg (h x List.mem_cons_self), spI_app b (fun y hy => h y (List.mem_cons_of_mem _ hy))]
    rfl
def jnI (c : Int) : List (List Int) → List Int
  | [] => []
  | [p] => p
  | p :: q :: r => p ++ c :: jnI c (q :: r)
theorem jn_cons (c x : Int) (p : List Int) : ∀ r, jnI c ((x :: p) :: r) = x :: jnI c (p :: r)
  | [] => rfl
  | _ :: _ => rfl
theorem jn_sp (c : Int) : ∀ l, jnI c (spI c l) = l
  | [] => rfl
  | x :: t => by
    have ih := jn_sp c t
    have hne := spI_ne c t
    unfold spI
    generalize spI c t = s at *
    cases s with
    | nil => exact absurd rfl hne
    | cons h r =>
      split
      · rename_i e
        subst e
        show [] ++ x :: jnI x (h :: r) = x :: t
        rw [ih]; rfl
      · show jnI c ((x :: h) :: r) = x :: t
        rw [jn_cons, ih]
theorem sp_jn {c : Int} : ∀ {ps : List (List Int)}, ps ≠ [] → (∀ p ∈ ps, ∀ x ∈ p, x ≠ c) → spI c (jnI c ps) = ps
  | [], h, _ => absurd rfl h
  | [p], _, h => spI_free (h p List.mem_cons_self)
  | p :: q :: r, _, h => by
    show spI c (p ++ c :: jnI c (q :: r)) = _
    rw [spI_app _ (h p List.mem_cons_self), sp_jn (by simp) (fun y hy => h y (List.mem_cons_of_mem _ hy))]
theorem jn_words : ∀ (xs : List Int) (w : List Int), w ++ wordsL xs = jnI 32 (w :: xs.map decL)
  | [], w => by simp [wordsL, jnI]
  | x :: xs, w => by
    have ih := jn_words xs (decL x)
    show w ++ wordsL (x :: xs) = w ++ 32 :: jnI 32 (decL x :: xs.map decL)
    rw [← ih]
    simp [wordsL]
theorem jn10 : ∀ (rs : List (List Int)) (h : List Int), jnI 10 (h :: (rs ++ [[]])) = h ++ 10 :: rs.flatMap (fun r => r ++ [10])
  | [], h => by simp [jnI]
  | r :: rs, h => by
    show h ++ 10 :: jnI 10 (r :: (rs ++ [[]])) = _
    rw [jn10 rs r]
    simp
/-! ### All or nothing -/
def mm {α β : Type} (f : α → Option β) : List α → Option (List β)
  | [] => some []
  | x :: t => match f x, mm f t with
    | some y, some ys => some (y :: ys)
    | _, _ => none
section
variable {α β : Type} {f : α → Option β}
theorem mm_c (x : α) (t : List α) : mm f (x :: t) = (match f x, mm f t with
    | some y, some ys => some (y :: ys)
    | _, _ => none) := rfl
theorem mm_cons {x : α} {t : List α} {ys : List β} : mm f (x :: t) = some ys ↔ ∃ y zs, f x = some y ∧ mm f t = some zs ∧ ys = y :: zs := by
  rw [mm_c]
  cases h1 : f x with
  | none => simp
  | some y =>
    cases h2 : mm f t with
    | none => simp
    | some zs =>
      simp
      exact ⟨fun e => e.symm, fun e => e.symm⟩
theorem mm_snoc : ∀ {l : List α} {ks : List β} {z : α} {y : β}, mm f l = some ks → f z = some y → mm f (l ++ [z]) = some (ks ++ [y])
  | [], ks, z, y, h, hz => by
    cases h
    exact mm_cons.2 ⟨y, [], hz, rfl, rfl⟩
  | x :: t, ks, z, y, h, hz => by
    obtain ⟨y1, zs, h1, h2, rfl⟩ := mm_cons.1 h
    exact mm_cons.2 ⟨y1, zs ++ [y], h1, mm_snoc h2 hz, rfl⟩
theorem mm_take {l : List α} {i : Nat} {ks : List β} {z : α} {y : β} (h : mm f (l.take i) = some ks) (hz : l[i]? = some z) (hy : f z = some y) : mm f (l.take (i + 1)) = some (ks ++ [y]) := by
  obtain ⟨hi, e⟩ := List.getElem?_eq_some_iff.1 hz
  rw [List.take_succ_eq_append_getElem hi, e]
  exact mm_snoc h hy
theorem mm_none : ∀ {l : List α} {i : Nat} {z : α}, l[i]? = some z → f z = none → mm f l = none
  | [], i, z, hz, _ => by simp at hz
  | x :: t, 0, z, hz, hy => by
    cases hz
    rw [mm_c, hy]
  | x :: t, i + 1, z, hz, hy => by
    have ih := mm_none (l := t) (i := i) (by simpa using hz) hy
    rw [mm_c, ih]
    split
    · rename_i h; cases h
    · rfl
theorem mm_len : ∀ {l : List α} {ks : List β}, mm f l = some ks → ks.length = l.length
  | [], ks, h => by cases h; rfl
  | x :: t, ks, h => by
    obtain ⟨y, zs, _, h2, rfl⟩ := mm_cons.1 h
    simp [mm_len h2]
theorem mm_map {g : β → α} : ∀ {xs : List β}, (∀ x ∈ xs, f (g x) = some x) → mm f (xs.map g) = some xs
  | [], _ => rfl
  | x :: t, h => mm_cons.2 ⟨x, t, h x List.mem_cons_self, mm_map (fun y hy => h y (List.mem_cons_of_mem _ hy)), rfl⟩
theorem mm_get : ∀ {l : List α} {ks : List β}, mm f l = some ks → ∀ (j : Nat) (y : β), ks[j]? = some y → ∃ z, l[j]? = some z ∧ f z = some y
  | [], ks, h, j, y, hy => by cases h; simp at hy
  | x :: t, ks, h, j, y, hy => by
    obtain ⟨y1, zs, h1, h2, rfl⟩ := mm_cons.1 h
    cases j with
    | zero => cases hy; exact ⟨x, rfl, h1⟩
    | succ j => exact mm_get h2 j y (by simpa using hy)
theorem mm_back {g : β → α} {l : List α} {ks : List β} (h : mm f l = some ks) (hb : ∀ x y, y ∈ ks → f x = some y → x = g y) : l = ks.map g := by
  apply List.ext_getElem?
  intro j
  rw [List.getElem?_map]
  cases e : ks[j]? with
  | none =>
    have := mm_len h
    rw [List.getElem?_eq_none_iff] at e
    rw [List.getElem?_eq_none (by omega)]
    rfl
  | some y =>
    obtain ⟨z, h1, h2⟩ := mm_get h j y e
    rw [h1]
    exact congrArg some (hb z y (List.mem_of_getElem? e) h2)
end
/-! ### Numbers -/
def numF (t : List Int) : Option Int := if (1 ≤ t.length ∧ t.length ≤ 9 ∧ ¬ (t.headD 0 = 48 ∧ 1 < t.length)) ∧ (∀ b ∈ t, 48 ≤ b ∧ b ≤ 57) then some (t.foldl (fun n b => n * 10 + (b - 48)) 0) else none
theorem decL_two {x : Int} (h : 0 ≤ x ∧ x < 100) : (x < 10 ∧ decL x = [48 + x]) ∨ (10 ≤ x ∧ decL x = [48 + x / 10, 48 + x % 10]) := by
  unfold decL
  by_cases e : 10 ≤ x
  · exact .inr ⟨e, if_pos e⟩
  · exact .inl ⟨by omega, if_neg e⟩
theorem decL_digit {x : Int} (h : 0 ≤ x ∧ x < 100) : ∀ b ∈ decL x, 48 ≤ b ∧ b ≤ 57 := by
  intro b hb
  rcases decL_two h with ⟨h1, e⟩ | ⟨h1, e⟩
  · rw [e] at hb; simp at hb; omega
  · rw [e] at hb; simp at hb; omega
theorem numF_dec {x : Int} (h : 0 ≤ x ∧ x < 100) : numF (decL x) = some x := by
  have hd := decL_digit h
  unfold numF
  rcases decL_two h with ⟨h1, e⟩ | ⟨h1, e⟩
  · rw [e] at hd ⊢
    rw [if_pos ⟨⟨by simp, by simp, by simp⟩, hd⟩]
    simp
    omega
  · rw [e] at hd ⊢
    rw [if_pos ⟨⟨by simp, by simp, by simp; omega⟩, hd⟩]
    simp
    omega
theorem fold_ge : ∀ (t : List Int) (n : Int), 0 ≤ n → (∀ b ∈ t, 48 ≤ b ∧ b ≤ 57) → n ≤ t.foldl (fun n b => n * 10 + (b - 48)) n
  | [], n, _, _ => Int.le_refl _
  | b :: t, n, h, hb => by
    have h1 := hb b List.mem_cons_self
    have := fold_ge t (n * 10 + (b - 48)) (by omega) (fun y hy => hb y (List.mem_cons_of_mem _ hy))
    show n ≤ t.foldl _ (n * 10 + (b - 48))
    omega
theorem numF_back {t : List Int} {x : Int} (h : numF t = some x) (hx : x < 100) : t = decL x ∧ 0 ≤ x := by
  unfold numF at h
  split at h
  · rename_i hc
    obtain ⟨⟨h1, h2, h3⟩, hd⟩ := hc
    cases h
    match t, h1, h3, hd with
    | [a], _, _, hd =>
      have := hd a (by simp)
      refine ⟨?_, by simp; omega⟩
      simp only [List.foldl_cons, List.foldl_nil]
      unfold decL
      rw [if_neg (by omega)]
      simp
      omega
    | [a, b], _, h3, hd =>
      have h4 := hd a (by simp)
      have h5 := hd b (by simp)
      have h6 : a ≠ 48 := fun e => h3 ⟨e, by simp⟩
      refine ⟨?_, by simp; omega⟩
      simp only [List.foldl_cons, List.foldl_nil]
      unfold decL
      rw [if_pos (by omega)]
      simp
      omega
    | a :: b :: c :: r, _, h3, hd =>
      exfalso
      have h4 := hd a (by simp)
      have h5 := hd b (by simp)
      have h7 := hd c (by simp)
      have h6 : a ≠ 48 := fun e => h3 ⟨e, by simp⟩
      have q := fold_ge r ((((0 * 10 + (a - 48)) * 10 + (b - 48)) * 10 + (c - 48))) (by omega) (fun y hy => hd y (by simp [hy]))
      simp only [List.foldl_cons] at hx
      omega
  · cases h
def PI (t : List Int) : Option Int := match Lib.parseIntB 64 (t.map (fun n => UInt8.ofNat n.toNat)) with
  | .ok v => some v
  | _ => none
theorem PI_dec {x : Int} (h : 0 ≤ x ∧ x < 100) : PI (decL x) = some x := by
  have := (by decide +kernel : ∀ x : Fin 100, PI (decL (x.val : Int)) = some (x.val : Int)) ⟨x.toNat, by omega⟩
  simp only at this
  rwa [show ((x.toNat : Nat) : Int) = x by omega] at this
def itoaI (n : Int) : List Int := (Lib.itoa n).map (fun b => (b.toNat : Int))
theorem itoaI_dec {x : Int} (h : 0 ≤ x ∧ x < 100) : itoaI x = decL x := by
  obtain ⟨u, rfl⟩ : ∃ u : Nat, x = (u : Int) := ⟨x.toNat, by omega⟩
  unfold itoaI
  rw [Lib.itoa_nonneg]
  have hu : u < 100 := by omega
  rcases decL_two h with ⟨h1, e⟩ | ⟨h1, e⟩
  · rw [Lib.decDigits_one (by omega), e]
    have : (48 + u) % 256 = 48 + u := by omega
    simp [this]
  · rw [Lib.decDigits_two (by omega) hu, e]
    have a1 : (48 + u / 10) % 256 = 48 + u / 10 := by omega
    have a2 : (48 + u % 10) % 256 = 48 + u % 10 := by omega
    simp [a1, a2]
/-! ### What is read out of a text -/
def wordsI (xs : List Int) : List Int := xs.flatMap (fun x => 32 :: itoaI x)
theorem wordsI_eq : ∀ {xs : List Int}, (∀ x ∈ xs, 0 ≤ x ∧ x < 100) → wordsI xs = wordsL xs
  | [], _ => rfl
  | x :: t, h => by
    have ih := wordsI_eq (xs := t) (fun y hy => h y (List.mem_cons_of_mem _ hy))
    have e := itoaI_dec (h x List.mem_cons_self)
    show 32 :: itoaI x ++ wordsI t = 32 :: decL x ++ wordsL t
    rw [e, ih]
theorem words_sp {w xs : List Int} (hw : ∀ x ∈ w, x ≠ 32) (hx : ∀ x ∈ xs, 0 ≤ x ∧ x < 100) : spI 32 (w ++ wordsL xs) = w :: xs.map decL := by
  rw [jn_words]
  refine sp_jn (by simp) (fun p hp y hy => ?_)
  rcases List.mem_cons.1 hp with rfl | hp
  · exact hw y hy
  · obtain ⟨x, hx1, rfl⟩ := List.mem_map.1 hp
    have := decL_digit (hx x hx1) y hy
    omega
def rwI (word line : List Int) : Option (List Int) := match mm PI (spI 32 line).tail with
  | none => none
  | some out => if word ++ wordsI out = line then some out else none
theorem rwI_ok {w xs : List Int} (hw : ∀ x ∈ w, x ≠ 32) (hx : ∀ x ∈ xs, 0 ≤ x ∧ x < 100) : rwI w (w ++ wordsL xs) = some xs := by
  unfold rwI
  rw [words_sp hw hx]
  show (match mm PI (xs.map decL) with | none => none | some out => if w ++ wordsI out = w ++ wordsL xs then some out else none) = some xs
  rw [mm_map (fun x h => PI_dec (hx x h))]
  simp [wordsI_eq hx]
abbrev schW : List Int := [115, 99, 104, 101, 109, 101]
abbrev rowW : List Int := [114, 111, 119]
structure Sch where
  n : Int
  o : List Int
  p : Int
  k : Int
  l : List (List Int)
def Sch.ok (s : Sch) : Prop := okSc s.n s.o s.p s.k s.l
def Sch.txt (s : Sch) : List Int := txtR s.n s.p s.k s.o s.l s.o.length
def rowT (h : Int) (r : List Int) : List Int := rowW ++ 32 :: ([65 + h] ++ wordsL r)
def Sch.rows (s : Sch) : List (List Int) := (List.range s.o.length).map (fun j => rowT (s.o.getD j 0) (s.l.getD j []))
def Sch.head (s : Sch) : List Int := schW ++ wordsL [s.n, s.p, s.k]
theorem Sch.txt_jn (s : Sch) : s.txt = jnI 10 (s.head :: (s.rows ++ [[]])) := by
  rw [jn10]
  unfold Sch.txt txtR Sch.head Sch.rows rowT
  simp only [List.flatMap_map, List.append_assoc, List.cons_append, List.nil_append, List.singleton_append, grp_one]
theorem Sch.nums {s : Sch} (h : s.ok) : (∀ x ∈ [s.n, s.p, s.k], 0 ≤ x ∧ x < 100) ∧ (∀ r ∈ s.l, ∀ x ∈ r, 0 ≤ x ∧ x < 100) ∧ (∀ x ∈ s.o, 0 ≤ x ∧ x ≤ 6) ∧ s.o.length = s.l.length := by
  obtain ⟨h1, ⟨h2, h3, h4, h5⟩, h6, h7, h8⟩ := h
  have hp := h2.1
  refine ⟨fun x hx => ?_, fun r hr x hx => ?_, fun x hx => ?_, h7⟩
  · simp at hx; omega
  · obtain ⟨j, hj, rfl⟩ := List.getElem_of_mem hx
    have q := (h5 r hr).1 j hj
    have e : r.getD j 0 = r[j] := by simp [hj]
    rw [e] at q; omega
  · have := h8 x hx; omega
theorem wordsL_free {xs : List Int} (h : ∀ x ∈ xs, 0 ≤ x ∧ x < 100) : ∀ b ∈ wordsL xs, b ≠ 10 := fun b hb => by
  unfold wordsL at hb
  obtain ⟨x, hx, hb⟩ := List.mem_flatMap.1 hb
  rcases List.mem_cons.1 hb with rfl | hb
  · decide
  · have := decL_digit (h x hx) b hb; omega
theorem getD_memI {l : List Int} {j : Nat} (h : j < l.length) : l.getD j 0 ∈ l := by
  have e : l.getD j 0 = l[j] := by simp [h]
  rw [e]; exact List.getElem_mem h
theorem getD_memL {l : List (List Int)} {j : Nat} (h : j < l.length) : l.getD j [] ∈ l := by
  have e : l.getD j [] = l[j] := by simp [h]
  rw [e]; exact List.getElem_mem h
theorem Sch.lines {s : Sch} (h : s.ok) : spI 10 s.txt = s.head :: (s.rows ++ [[]]) := by
  obtain ⟨h1, h2, h3, h4⟩ := Sch.nums h
  rw [Sch.txt_jn]
  refine sp_jn (by simp) (fun p hp y hy => ?_)
  rcases List.mem_cons.1 hp with rfl | hp
  · rcases List.mem_append.1 hy with hy | hy
    · simp at hy; omega
    · exact wordsL_free h1 y hy
  · rcases List.mem_append.1 hp with hp | hp
    · obtain ⟨j, hj, rfl⟩ := List.mem_map.1 hp
      have hj2 := List.mem_range.1 hj
      have ho := h3 _ (getD_memI hj2)
      unfold rowT at hy
      simp only [List.mem_append, List.mem_cons] at hy
      rcases hy with hy | hy | hy | hy
      · simp at hy; omega
      · omega
      · have := hy.resolve_right (by simp); omega
      · exact wordsL_free (fun x hx => h2 _ (getD_memL (by omega)) x hx) y hy
    · simp at hp; subst hp; cases hy
def mids (ls : List (List Int)) : List (List Int) := ls.tail.dropLast
theorem mids_of (a : List Int) (r : List (List Int)) : mids (a :: (r ++ [[]])) = r := by simp [mids]
/-- A line of a row, as the program reads it. -/
def rlI (line : List Int) : Option (Int × List Int) := if line.length < 5 ∨ line.take 4 ≠ rowW ++ [32] then none else match rwI [line.getD 4 0] (line.drop 4) with
  | none => none
  | some r => some (line.getD 4 0 - 65, r)
theorem rlI_ok {h : Int} {r : List Int} (hh : 0 ≤ h ∧ h ≤ 6) (hr : ∀ x ∈ r, 0 ≤ x ∧ x < 100) : rlI (rowT h r) = some (h, r) := by
  unfold rlI rowT
  rw [if_neg (by simp)]
  show (match rwI [65 + h] ([65 + h] ++ wordsL r) with | none => none | some r => some (65 + h - 65, r)) = _
  rw [rwI_ok (by simp; omega) hr]
  simp
  omega
/-- A line of a row, as the reference reads it. -/
def rlS (line : List Int) : Option (Int × List Int) := match spI 32 line with
  | w0 :: [c] :: rest => if w0 = rowW ∧ 65 ≤ c ∧ c ≤ 71 then (match mm numF rest with | none => none | some r => some (c - 65, r)) else none
  | _ => none
theorem rlS_ok {h : Int} {r : List Int} (hh : 0 ≤ h ∧ h ≤ 6) (hr : ∀ x ∈ r, 0 ≤ x ∧ x < 100) : rlS (rowT h r) = some (h, r) := by
  have e : spI 32 (rowT h r) = rowW :: [65 + h] :: r.map decL := by
    unfold rowT
    rw [spI_app _ (by simp), words_sp (by simp; omega) hr]
  unfold rlS
  rw [e]
  simp only
  rw [if_pos (by refine ⟨?_, by omega, by omega⟩; first | rfl | trivial), mm_map (fun x hx => numF_dec (hr x hx))]
  simp
  omega
theorem rlS_back {line : List Int} {h : Int} {r : List Int} (e : rlS line = some (h, r)) (hr : ∀ x ∈ r, x < 100) : line = rowT h r ∧ 0 ≤ h ∧ h ≤ 6 := by
  have hj := jn_sp 32 line
  unfold rlS at e
  split at e
  · rename_i w0 c rest hs
    split at e
    · rename_i hc
      split at e
      · cases e
      · rename_i r' hm
        cases e
        have hb := mm_back (g := decL) hm (fun x y hy hxy => (numF_back hxy (hr y hy)).1)
        rw [hs, hb, hc.1] at hj
        refine ⟨?_, by omega, by omega⟩
        rw [← hj]
        unfold rowT
        show _ ++ 32 :: jnI 32 ([c] :: r.map decL) = _
        rw [← jn_words, show 65 + (c - 65) = c by omega]
    · cases e
  · cases e
noncomputable def imF (t : List Int) : Option Sch := match rwI schW ((spI 10 t).headD []) with
  | some [n, p, k] => (match mm rlI (mids (spI 10 t)) with
    | some rs => if schT n (rs.map Prod.fst) p k (rs.map Prod.snd) = bytesOf t then some ⟨n, rs.map Prod.fst, p, k, rs.map Prod.snd⟩ else none
    | none => none)
  | _ => none
noncomputable def spF (t : List Int) : Option Sch := match mm numF (spI 32 ((spI 10 t).headD [])).tail with
  | some [n, p, k] => if ((spI 32 ((spI 10 t).headD [])).headD [] = schW ∧ 2 ≤ (spI 10 t).length ∧ (spI 10 t).getLastD [] = []) then (match mm rlS (mids (spI 10 t)) with
    | some rs => if okSc n (rs.map Prod.fst) p k (rs.map Prod.snd) then some ⟨n, rs.map Prod.fst, p, k, rs.map Prod.snd⟩ else none
    | none => none) else none
  | _ => none
theorem Sch.ext' {s s' : Sch} (h1 : s.n = s'.n) (h2 : s.o = s'.o) (h3 : s.p = s'.p) (h4 : s.k = s'.k) (h5 : s.l = s'.l) : s = s' := by
  cases s; cases s'; simp only at *; subst h1; subst h2; subst h3; subst h4; subst h5; rfl
theorem Sch.head_rw {s : Sch} (h : s.ok) : rwI schW s.head = some [s.n, s.p, s.k] := rwI_ok (by decide) (Sch.nums h).1
theorem map_range_getD {α : Type} (l : List α) (d : α) {n : Nat} (hn : n = l.length) : (List.range n).map (fun j => l.getD j d) = l := by
  subst hn
  apply List.ext_getElem (by simp)
  intro j h1 h2
  simp [h2]
theorem Sch.rows_mm {s : Sch} {f : List Int → Option (Int × List Int)} (h : s.ok) (hf : ∀ (a : Int) (r : List Int), 0 ≤ a ∧ a ≤ 6 → (∀ x ∈ r, 0 ≤ x ∧ x < 100) → f (rowT a r) = some (a, r)) :
    ∃ rs, mm f s.rows = some rs ∧ rs.map Prod.fst = s.o ∧ rs.map Prod.snd = s.l := by
  obtain ⟨h1, h2, h3, h4⟩ := Sch.nums h
  refine ⟨(List.range s.o.length).map (fun j => (s.o.getD j 0, s.l.getD j [])), ?_, ?_, ?_⟩
  · have e : s.rows = ((List.range s.o.length).map (fun j => (s.o.getD j 0, s.l.getD j []))).map (fun y => rowT y.1 y.2) := by unfold Sch.rows; rw [List.map_map]; rfl
    rw [e]
    refine mm_map (fun y hy => ?_)
    obtain ⟨j, hj, rfl⟩ := List.mem_map.1 hy
    have hj2 := List.mem_range.1 hj
    exact hf _ _ (h3 _ (getD_memI hj2)) (fun x hx => h2 _ (getD_memL (by omega)) x hx)
  · rw [List.map_map]; exact map_range_getD s.o 0 rfl
  · rw [List.map_map]; exact map_range_getD s.l [] h4
theorem schT_txt {s : Sch} (h : s.ok) : schT s.n s.o s.p s.k s.l = bytesOf s.txt := if_pos h
/-- Lists of bytes. -/
def isB (t : List Int) : Prop := ∀ x ∈ t, 0 ≤ x ∧ x ≤ 255
theorem bytesOf_data : ∀ (t : List Int), (bytesOf t).data.toList = t.map (fun n => UInt8.ofNat n.toNat)
  | [] => rfl
  | x :: t => by
    have e : bytesOf (x :: t) = bytesOf [x] ++ bytesOf t := bytesOf_app [x] t
    rw [e, ByteArray.data_append, Array.toList_append, bytesOf_data t]
    rfl
theorem bytesOf_inj {a b : List Int} (ha : isB a) (hb : isB b) (h : bytesOf a = bytesOf b) : a = b := by
  have q : a.map (fun n => UInt8.ofNat n.toNat) = b.map (fun n => UInt8.ofNat n.toNat) := by rw [← bytesOf_data, ← bytesOf_data, h]
  have key : ∀ {t : List Int}, isB t → (t.map (fun n => UInt8.ofNat n.toNat)).map (fun u => (u.toNat : Int)) = t := fun {t} ht => by
    rw [List.map_map]
    refine (List.map_congr_left fun x hx => ?_).trans (List.map_id t)
    have := ht x hx
    have e : x.toNat % 256 = x.toNat := Nat.mod_eq_of_lt (by omega)
    simp [e]
    omega
  rw [← key ha, ← key hb, q]
theorem txt_isB {s : Sch} (h : s.ok) : isB s.txt := by
  obtain ⟨h1, h2, h3, h4⟩ := Sch.nums h
  have hw : ∀ xs : List Int, (∀ x ∈ xs, 0 ≤ x ∧ x < 100) → isB (wordsL xs) := fun xs hx b hb => by
    unfold wordsL at hb
    obtain ⟨x, hx1, hb⟩ := List.mem_flatMap.1 hb
    rcases List.mem_cons.1 hb with rfl | hb
    · decide
    · have := decL_digit (hx x hx1) b hb; omega
  intro b hb
  unfold Sch.txt txtR at hb
  simp only [List.mem_append, List.mem_flatMap, List.mem_range] at hb
  rcases hb with ((hb | hb) | hb) | ⟨j, hj, ((hb | hb) | hb) | hb⟩
  · simp at hb; omega
  · exact hw _ h1 b hb
  · simp at hb; omega
  · simp at hb; omega
  · have := h3 _ (getD_memI hj)
    rw [grp_one] at hb
    have := List.mem_singleton.1 hb; omega
  · exact hw _ (fun x hx => h2 _ (getD_memL (by omega)) x hx) b hb
  · simp at hb; omega
/-- What the program reads is the one valid scheme whose text it is. -/
theorem imF_iff {t : List Int} (hb : isB t) (s : Sch) : imF t = some s ↔ s.ok ∧ t = s.txt := by
  constructor
  · intro h
    unfold imF at h
    split at h
    · rename_i n p k hr
      split at h
      · rename_i rs hm
        split at h
        · rename_i he
          cases h
          by_cases hk : okSc n (rs.map Prod.fst) p k (rs.map Prod.snd)
          · refine ⟨hk, ?_⟩
            have e := schT_txt (s := ⟨n, rs.map Prod.fst, p, k, rs.map Prod.snd⟩) hk
            exact (bytesOf_inj (txt_isB (s := ⟨n, rs.map Prod.fst, p, k, rs.map Prod.snd⟩) hk) hb (e.symm.trans he)).symm
          · exfalso
            unfold schT at he
            rw [if_neg hk] at he
            have et : t = [] := (bytesOf_inj (fun x hx => by cases hx) hb he).symm
            subst et
            unfold rwI at hr
            split at hr
            · cases hr
            · split at hr
              · rename_i he2
                cases he2
              · cases hr
        · cases h
      · cases h
    · cases h
  · rintro ⟨hk, rfl⟩
    obtain ⟨rs, hm, e1, e2⟩ := Sch.rows_mm (f := rlI) hk (fun a r => rlI_ok)
    unfold imF
    rw [Sch.lines hk, mids_of]
    show (match rwI schW s.head with | some [n, p, k] => _ | _ => none) = some s
    rw [Sch.head_rw hk]
    simp only [hm, e1, e2]
    rw [if_pos (schT_txt hk)]
theorem dropLast_snoc (l : List (List Int)) (h : l ≠ []) (hl : l.getLastD [] = []) : l = l.dropLast ++ [[]] := by
  have e := List.dropLast_concat_getLast h
  rw [List.getLastD_eq_getLast?, List.getLast?_eq_some_getLast h] at hl
  simp only [Option.getD_some] at hl
  rw [hl] at e
  exact e.symm
/-- And so does the reference. -/
theorem spF_iff {t : List Int} (s : Sch) : spF t = some s ↔ s.ok ∧ t = s.txt := by
  constructor
  · intro h
    unfold spF at h
    split at h
    · rename_i n p k hr
      split at h
      · rename_i hc
        obtain ⟨hc1, hc2, hc3⟩ := hc
        split at h
        · rename_i rs hm
          split at h
          · rename_i hk
            cases h
            refine ⟨hk, ?_⟩
            obtain ⟨h1, h2, h3, h4⟩ := Sch.nums (s := ⟨n, rs.map Prod.fst, p, k, rs.map Prod.snd⟩) hk
            simp only at h1 h2 h3 h4
            rw [Sch.txt_jn, ← jn_sp 10 t]
            generalize hls : spI 10 t = ls at *
            match ls, hc2 with
            | a :: b :: r, _ =>
              have hm2 : mids (a :: b :: r) = (b :: r).dropLast := rfl
              have hl : (b :: r).getLastD [] = [] := by
                have e : (a :: b :: r).getLastD [] = (b :: r).getLastD [] := by simp [List.getLastD_eq_getLast?, List.getLast?_cons_cons]
                rw [← e]; exact hc3
              have e1 := dropLast_snoc (b :: r) (by simp) hl
              have ha : a = Sch.head ⟨n, rs.map Prod.fst, p, k, rs.map Prod.snd⟩ := by
                have q := mm_back (g := decL) hr (fun x y hy hxy => (numF_back hxy (h1 y hy).2).1)
                have q2 := jn_sp 32 a
                have q3 := spI_ne 32 a
                simp only [List.headD_cons] at hc1 q
                generalize spI 32 a = ws at *
                cases ws with
                | nil => exact absurd rfl q3
                | cons w r2 =>
                  simp only [List.headD_cons, List.tail_cons] at hc1 q
                  rw [hc1, q, ← jn_words] at q2
                  exact q2.symm
              have hb : (b :: r).dropLast = Sch.rows ⟨n, rs.map Prod.fst, p, k, rs.map Prod.snd⟩ := by
                have q := mm_back (g := fun y => rowT y.1 y.2) hm (fun x y hy hxy => (rlS_back (h := y.1) (r := y.2) hxy (fun z hz => (h2 y.2 (List.mem_map.2 ⟨y, hy, rfl⟩) z hz).2)).1)
                rw [← hm2, q]
                unfold Sch.rows
                apply List.ext_getElem (by simp)
                intro j a1 a2
                simp only [List.length_map] at a1
                simp [a1]
              rw [e1, hb, ← ha]
          · cases h
        · cases h
      · cases h
    · cases h
  · rintro ⟨hk, rfl⟩
    obtain ⟨rs, hm, e1, e2⟩ := Sch.rows_mm (f := rlS) hk (fun a r => rlS_ok)
    have hn := (Sch.nums hk).1
    have hs : spI 32 s.head = schW :: [s.n, s.p, s.k].map decL := words_sp (by decide) hn
    have hmm : mm numF ([s.n, s.p, s.k].map decL) = some [s.n, s.p, s.k] := mm_map (fun x hx => numF_dec (hn x hx))
    unfold spF
    rw [Sch.lines hk, mids_of]
    have k1 : mm numF (spI 32 ((s.head :: (s.rows ++ [[]])).headD [])).tail = some [s.n, s.p, s.k] := by
      show mm numF (spI 32 s.head).tail = _
      rw [hs]; exact hmm
    have k2 : (spI 32 ((s.head :: (s.rows ++ [[]])).headD [])).headD [] = schW := by
      show (spI 32 s.head).headD [] = _
      rw [hs]; rfl
    rw [k1]
    simp only
    rw [if_pos ⟨k2, by simp, by rw [show s.head :: (s.rows ++ [[]]) = (s.head :: s.rows) ++ [[]] from rfl, List.getLastD_eq_getLast?, List.getLast?_append]; rfl⟩, hm]
    simp only [e1, e2]
    exact if_pos hk
theorem im_sp {t : List Int} (hb : isB t) : imF t = spF t := by
  apply Option.ext
  intro s
  exact (imF_iff hb s).trans (spF_iff s).symm
end Go.Proofs.YteajnanbfkcdcaaDoor.VC
