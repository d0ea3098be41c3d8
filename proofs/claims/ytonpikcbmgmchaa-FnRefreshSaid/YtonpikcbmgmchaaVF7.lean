/- Walks. -/
import Derived.Test.YtonpikcbmgmchaaVF6
set_option linter.unusedVariables false
set_option linter.unusedSimpArgs false
namespace Go.Proofs.Ytonpikcbmgmchaa.VC
open Go Go.RowKit
variable {W : World} {H : Hp}

/-! ### Curves and their shares -/
open VI (dl dl_fst cutTo throughM addC stripM pe cval_pe stripM_pe addC_pe addC_length allR lastNZ)
theorem val_cg (p : Int) (c : List Int) (x : Int) : Cg p (val p c x) (pe c x) := cval_pe p x c
theorem val_of {p : Int} (hp : 0 < p) {c : List Int} {x a : Int} (h : Cg p (pe c x) a) : val p c x = a % p := by
  have h1 := val_in hp c x
  have h2 := emod_bd hp a
  exact ((val_cg p c x).trans (h.trans (Cg.mod p a).symm)).eq h1.1 (by omega) h2.1 h2.2
theorem val_strip {p : Int} (hp : 0 < p) (l : List Int) (x : Int) : val p (stripM l) x = val p l x := by
  rw [val_of hp (stripM_pe p x l), val_of hp (Cg.refl p (pe l x))]
theorem val_add {p : Int} (hp : 0 < p) (t : Int) (a b : List Int) (x : Int) : val p (addC p t a b) x = (val p a x + t * val p b x) % p :=
  val_of hp ((addC_pe p t x a b).trans ((val_cg p a x).symm.add ((Cg.refl p t).mul (val_cg p b x).symm)))
theorem val_sum {p : Int} (hp : 0 < p) (a b : List Int) (x : Int) : val p (stripM (addC p 1 a b)) x = (val p a x + val p b x) % p := by
  rw [val_strip hp, val_add hp, Int.one_mul]
theorem val_scl {p : Int} (hp : 0 < p) (t : Int) (a : List Int) (x : Int) : val p (stripM (scl p t a)) x = (val p a x * t) % p := by
  rw [val_strip hp, scl_addC, val_add hp, show val p [] x = 0 from rfl, Int.zero_add, Int.mul_comm]
theorem cut_last (l : List Int) : ∀ n, n ≤ l.length → ((cutTo l n).length : Int) = 0 ∨ (cutTo l n).getD ((cutTo l n).length - 1) 0 ≠ 0
  | 0, _ => .inl rfl
  | n + 1, h => by
    by_cases e : l.getD n 0 = 0
    · rw [cut_succ e]; exact cut_last l n (by omega)
    · right
      rw [cut_stop (i := n + 1) (.inr (by simpa using e)), List.length_take, Nat.min_eq_left h, Nat.add_sub_cancel]
      rw [List.getD_eq_getElem?_getD, List.getElem?_take, if_pos (by omega), ← List.getD_eq_getElem?_getD]
      exact e
theorem curve_strip {p : Int} {l : List Int} (h : elems p l) (h7 : l.length ≤ 7) : curveI p (stripM l) := by
  obtain ⟨i, hi, e⟩ := strip_take (l := l) (i := l.length) rfl
  refine ⟨?_, by rw [e]; exact elems_take h i, cut_last l _ (Nat.le_refl _)⟩
  rw [e, List.length_take]; omega
theorem strip_len (l : List Int) : (stripM l).length ≤ l.length := by
  obtain ⟨i, hi, e⟩ := strip_take (l := l) (i := l.length) rfl
  rw [e, List.length_take]; omega
theorem allR_of {p : Int} {l : List Int} (h : elems p l) : allR p l = true := by
  unfold allR
  rw [List.all_eq_true]
  intro x hx
  obtain ⟨j, hj, rfl⟩ := List.getElem_of_mem hx
  have := h j hj
  simp only [VI.inR, decide_eq_true_eq]
  simpa [hj] using this
theorem lastNZ_of {l : List Int} (h : (l.length : Int) = 0 ∨ l.getD (l.length - 1) 0 ≠ 0) : lastNZ l = true := by
  unfold lastNZ
  cases l with
  | nil => rfl
  | cons a l =>
    rcases h with h | h
    · simp at h; omega
    · simp only [List.isEmpty_cons, Bool.false_or, List.getLast?_eq_getElem?, bne_iff_ne, ne_eq]
      intro e
      apply h
      rw [List.getD_eq_getElem?_getD, e]; rfl
theorem dl_snd (p : Int) (c pts : List Int) : (dl p c pts).map Prod.snd = pts.map (fun y => VI.cval p c y) := by
  unfold dl
  rw [List.map_map]; rfl
theorem dl_len (p : Int) (c pts : List Int) : (dl p c pts).length = pts.length := by simp [dl]
theorem dl_thr {p : Int} {c pts : List Int} (hp : primeI p) (hc : curveI p c) (hpt : ptsI p pts) (hl : c.length ≤ pts.length) : throughM p ((dl p c pts).map Prod.fst) ((dl p c pts).map Prod.snd) = c := by
  rw [dl_fst, dl_snd]
  exact VI.through_back (isPr_of hp) (VI.dst_of hpt) (allR_of hc.2.1) (lastNZ_of hc.2.2) hl
theorem dl_open {p : Int} {c pts : List Int} (hp : primeI p) (hpt : ptsI p pts) (hl : c.length ≤ pts.length) (x : Int) : opV p (dl p c pts) x = val p c x := by
  have h := VI.dot_exact (isPr_of hp) (VI.dst_of hpt) hl x
  unfold opV
  rw [dl_fst, dl_snd, VI.wts_wM]
  refine Eq.trans ?_ h
  unfold VI.dotM dotI
  rw [VI.sumM_range _ _ (by simp [VI.wM]), Int.zero_add]
set_option maxRecDepth 100000 in
theorem law_Curves {vc vd : Value} {l l2 : List Int} (hr : RdK kU8 W H (fun _ => False) vc l) (hby : bytes l) (hr2 : RdK kU8 W H (fun _ => False) vd l2) (hby2 : bytes l2) : ACalls Try.prog W 12 #[vc, vd] H (fun r H' => r = .bool true ∧ Ext H H') := by
  refine ACalls.of (args := [vc, vd]) Try.func12 rfl rfl ?_
  have X0 := Ext.refl H
  have hm1 := hr.max
  have hm2 := hr2.max
  refine AW.rs ?_
  refine AL.val rfl (.inl rfl) (HV.as rfl) ?_
  refine AL.nx ?_
  refine AW.seq ?_
  refine AW.rs ?_
  refine AL.val rfl (.inl rfl) (HV.mv rfl) ?_
  refine AL.w rfl (.inl rfl) (WV.call fn41 rfl (f6big_ok hr)) ?_
  rintro _ H3 ⟨rfl, hx4⟩
  have X5 := Ext.trans X0 hx4
  refine AL.val rfl (.inl rfl) (HV.mv rfl) ?_
  by_cases c6 : (l.length : Int) > 4096
  · -- true
    have c6_ : decide ((l.length : Int) > 4096) = true := decide_eq_true c6
    rw [c6_]
    refine AL.off rfl rfl (by decide) rfl ?_
    refine AL.off rfl rfl (by decide) rfl ?_
    refine AL.val rfl (.inl rfl) (HV.pickT rfl rfl) ?_
    refine AL.nx ?_
    refine AW.cond rfl (fun _ => ?_) (fun h => by cases h)
    refine AW.rs ?_
    refine AL.val rfl (.inl rfl) (HV.as rfl) ?_
    refine AL.nx ?_
    refine AW.ret ?_
    refine ret_and ?_
    refine post_one rfl rfl ?_ (.inr rfl)
    exact ⟨rfl, X5⟩
  · -- false
    have c6_ : decide ((l.length : Int) > 4096) = false := decide_eq_false c6
    rw [c6_]
    refine AL.val rfl (.inr ⟨_, _, _, rfl, rfl, rfl⟩) (HV.mv rfl) ?_
    refine AL.w rfl (.inr ⟨_, _, _, rfl, rfl, rfl⟩) (WV.call fn41 rfl (f6big_ok (hr2.ext X5))) ?_
    rintro _ H8 ⟨rfl, hx9⟩
    have X10 := Ext.trans X5 hx9
    refine AL.val rfl (.inl rfl) (HV.pickF rfl rfl) ?_
    refine AL.nx ?_
    refine AW.ifd rfl (fun c11 => ?_) (fun c11 => ?_)
    · -- then
      refine AW.rs ?_
      refine AL.val rfl (.inl rfl) (HV.as rfl) ?_
      refine AL.nx ?_
      refine AW.ret ?_
      refine ret_and ?_
      refine post_one rfl rfl ?_ (.inr rfl)
      exact ⟨rfl, X10⟩
    · -- else
      refine AW.skip ?_
      refine nrm_and ?_
      refine AW.rs ?_
      refine AL.val rfl (.inl rfl) (HV.mv rfl) ?_
      refine AL.w rfl (.inl rfl) (WV.call fn42 rfl (p6Prime_ok (hr.ext X10) hby)) ?_
      rintro _ H12 ⟨⟨p, rfl, h14⟩, hx13⟩
      have X15 := Ext.trans X10 hx13
      have hP := prime_of h14
      have hp0 : 0 < p := by omega
      refine AL.val rfl (.inl rfl) (HV.as rfl) ?_
      refine AL.nx ?_
      refine AW.rs ?_
      refine AL.val rfl (.inl rfl) (HV.mv rfl) ?_
      refine AL.val rfl (.inl rfl) (HV.mv rfl) ?_
      refine AL.w rfl (.inl rfl) (WV.call fn43 rfl (p6Curve_ok (hr.ext X15) hby p 3 (by omega) (by omega))) ?_
      rintro v16 H17 ⟨⟨ca, ho19, h20⟩, hx18⟩
      have X22 := Ext.trans X15 hx18
      have X23 := Ext.refl H17
      have hr21 := ho19.rd
      have hca := h20.1
      have hcal := h20.2
      refine AL.val rfl (.inl rfl) (HV.as rfl) ?_
      refine AL.nx ?_
      refine AW.rs ?_
      refine AL.val rfl (.inl rfl) (HV.mv rfl) ?_
      refine AL.val rfl (.inl rfl) (HV.mv rfl) ?_
      refine AL.w rfl (.inl rfl) (WV.call fn43 rfl (p6Curve_ok (hr2.ext X22) hby2 p 3 (by omega) (by omega))) ?_
      rintro v24 H25 ⟨⟨cb, ho27, h28⟩, hx26⟩
      have X30 := Ext.trans X22 hx26
      have X31 := Ext.trans X23 hx26
      have X32 := Ext.refl H25
      have hr29 := ho27.rd
      have hcb := h28.1
      have hcbl := h28.2
      refine AL.val rfl (.inl rfl) (HV.as rfl) ?_
      refine AL.nx ?_
      refine AW.rs ?_
      refine AL.val rfl (.inl rfl) (HV.mv rfl) ?_
      refine AL.val rfl (.inl rfl) (HV.mv rfl) ?_
      refine AL.w rfl (.inl rfl) (WV.call fn45 rfl (p6Pick_ok (hr2.ext X30) hby2 p)) ?_
      rintro _ H33 ⟨⟨x, rfl, h35⟩, hx34⟩
      have X36 := Ext.trans X30 hx34
      have X37 := Ext.trans X31 hx34
      have X38 := Ext.trans X32 hx34
      have hxx := h35
      refine AL.val rfl (.inl rfl) (HV.as rfl) ?_
      refine AL.nx ?_
      refine AW.rs ?_
      refine AL.val rfl (.inl rfl) (HV.mv rfl) ?_
      refine AL.val rfl (.inl rfl) (HV.mv rfl) ?_
      refine AL.w rfl (.inl rfl) (WV.call fn45 rfl (p6Pick_ok (hr.ext X36) hby p)) ?_
      rintro _ H39 ⟨⟨t, rfl, h41⟩, hx40⟩
      have X42 := Ext.trans X36 hx40
      have X43 := Ext.trans X37 hx40
      have X44 := Ext.trans X38 hx40
      have htt := h41
      obtain ⟨cs, hcs⟩ : ∃ q, q = stripM (addC p 1 ca cb) := ⟨_, rfl⟩
      obtain ⟨ct, hct⟩ : ∃ q, q = stripM (scl p t ca) := ⟨_, rfl⟩
      have hVs : primeI p ∧ curveI p cs := ⟨hP.1, by rw [hcs]; exact curve_strip (addC_in hp0 _ _ _) (by rw [addC_length]; omega)⟩
      have hVt : primeI p ∧ curveI p ct := ⟨hP.1, by rw [hct]; exact curve_strip (scl_in hp0 _ _) (by rw [scl_len]; omega)⟩
      have hsum : val p cs x = (val p ca x + val p cb x) % p := by rw [hcs]; exact val_sum hp0 _ _ _
      have hscl : val p ct x = (val p ca x * t) % p := by rw [hct]; exact val_scl hp0 _ _ _
      have hva := val_in hp0 ca x
      have hvb := val_in hp0 cb x
      have hvm := mul31 (a := val p ca x) (b := t) (by omega) (by omega) (by omega) (by omega)
      refine AL.val rfl (.inl rfl) (HV.as rfl) ?_
      refine AL.nx ?_
      refine AW.rs ?_
      refine AL.val rfl (.inl rfl) (HV.mv rfl) ?_
      refine AL.val rfl (.inl rfl) (HV.mv rfl) ?_
      refine AL.val rfl (.inl rfl) (HV.mv rfl) ?_
      refine AL.w rfl (.inl rfl) (WV.call fn56 rfl (addCurves_ok (hr21.ext X43) (hr29.ext X44) ⟨hP.1, hca⟩ hcb)) ?_
      rintro _ H46 ⟨⟨v45, rfl, hr48⟩, hx47⟩
      have X49 := Ext.trans X42 hx47
      have X50 := Ext.trans X43 hx47
      have X51 := Ext.trans X44 hx47
      have X52 := Ext.refl H46
      rw [← hcs] at hr48
      refine AL.val rfl (.inl rfl) (HV.mv rfl) ?_
      refine AL.val rfl (.inl rfl) (HV.ex rfl rfl) ?_
      refine AL.val rfl (.inl rfl) (HV.ex rfl rfl) ?_
      refine AL.val rfl (.inl rfl) (HV.as rfl) ?_
      refine AL.val rfl (.inl rfl) (HV.as rfl) ?_
      refine AL.nx ?_
      refine AW.rs ?_
      refine AL.val rfl (.inl rfl) (HV.mv rfl) ?_
      refine AL.val rfl (.inl rfl) (HV.mv rfl) ?_
      refine AL.val rfl (.inl rfl) (HV.mv rfl) ?_
      refine AL.w rfl (.inl rfl) (WV.call fn57 rfl (scaleCu_ok (hr21.ext X50) t ⟨hP.1, hca⟩ (by omega))) ?_
      rintro _ H54 ⟨⟨v53, rfl, hr56⟩, hx55⟩
      have X57 := Ext.trans X49 hx55
      have X58 := Ext.trans X50 hx55
      have X59 := Ext.trans X51 hx55
      have X60 := Ext.trans X52 hx55
      have X61 := Ext.refl H54
      rw [← hct] at hr56
      refine AL.val rfl (.inl rfl) (HV.mv rfl) ?_
      refine AL.val rfl (.inl rfl) (HV.ex rfl rfl) ?_
      refine AL.val rfl (.inl rfl) (HV.ex rfl rfl) ?_
      refine AL.val rfl (.inl rfl) (HV.as rfl) ?_
      refine AL.val rfl (.inl rfl) (HV.as rfl) ?_
      refine AL.nx ?_
      refine AW.rs ?_
      refine AL.val rfl (.inl rfl) (HV.mv rfl) ?_
      refine AL.val rfl (.inl rfl) (HV.mv rfl) ?_
      refine AL.val rfl (.inl rfl) (HV.mv rfl) ?_
      refine AL.w rfl (.inl rfl) (WV.call fn58 rfl (specAdd_ok (hr21.ext X58) (hr29.ext X59) ⟨hP.1, hca⟩ hcb)) ?_
      rintro _ H63 ⟨⟨v62, rfl, hr65⟩, hx64⟩
      have X66 := Ext.trans X57 hx64
      have X67 := Ext.trans X58 hx64
      have X68 := Ext.trans X59 hx64
      have X69 := Ext.trans X60 hx64
      have X70 := Ext.trans X61 hx64
      have X71 := Ext.refl H63
      rw [← hcs] at hr65
      refine AL.val rfl (.inl rfl) (HV.mv rfl) ?_
      refine AL.val rfl (.inl rfl) (HV.ex rfl rfl) ?_
      refine AL.val rfl (.inl rfl) (HV.ex rfl rfl) ?_
      refine AL.val rfl (.inl rfl) (HV.as rfl) ?_
      refine AL.val rfl (.inl rfl) (HV.as rfl) ?_
      refine AL.nx ?_
      refine AW.seq ?_
      refine AW.rs ?_
      refine AL.val rfl (.inl rfl) (HV.mv rfl) ?_
      refine AL.val rfl (.inl rfl) (HV.mv rfl) ?_
      refine AL.val rfl (.inl rfl) (HV.nei rfl rfl) ?_
      refine AL.val rfl (.inl rfl) (HV.mv rfl) ?_
      by_cases c72 : (0 : Int) ≠ 0
      · -- true
        have c72_ : decide ((0 : Int) ≠ 0) = true := decide_eq_true c72
        rw [c72_]
        refine AL.off rfl rfl (by decide) rfl ?_
        refine AL.off rfl rfl (by decide) rfl ?_
        refine AL.val rfl (.inl rfl) (HV.pickT rfl rfl) ?_
        refine AL.val rfl (.inl rfl) (HV.mv rfl) ?_
        refine AL.off rfl rfl (by decide) rfl ?_
        refine AL.off rfl rfl (by decide) rfl ?_
        refine AL.off rfl rfl (by decide) rfl ?_
        refine AL.off rfl rfl (by decide) rfl ?_
        refine AL.val rfl (.inl rfl) (HV.pickT rfl rfl) ?_
        refine AL.val rfl (.inl rfl) (HV.mv rfl) ?_
        refine AL.off rfl rfl (by decide) rfl ?_
        refine AL.off rfl rfl (by decide) rfl ?_
        refine AL.off rfl rfl (by decide) rfl ?_
        refine AL.off rfl rfl (by decide) rfl ?_
        refine AL.val rfl (.inl rfl) (HV.pickT rfl rfl) ?_
        refine AL.val rfl (.inl rfl) (HV.mv rfl) ?_
        refine AL.off rfl rfl (by decide) rfl ?_
        refine AL.off rfl rfl (by decide) rfl ?_
        refine AL.off rfl rfl (by decide) rfl ?_
        refine AL.off rfl rfl (by decide) rfl ?_
        refine AL.val rfl (.inl rfl) (HV.pickT rfl rfl) ?_
        refine AL.nx ?_
        refine AW.cond rfl (fun _ => ?_) (fun h => by cases h)
        refine AW.rs ?_
        refine AL.val rfl (.inl rfl) (HV.as rfl) ?_
        refine AL.nx ?_
        refine AW.ret ?_
        refine ret_and ?_
        refine post_one rfl rfl ?_ (.inr rfl)
        exfalso; first | omega | exact c72 rfl | exact c72 hVs | exact c72 hVt | exact c72 hvS
      · -- false
        have c72_ : decide ((0 : Int) ≠ 0) = false := decide_eq_false c72
        rw [c72_]
        refine AL.val rfl (.inr ⟨_, _, _, rfl, rfl, rfl⟩) (HV.mv rfl) ?_
        refine AL.val rfl (.inr ⟨_, _, _, rfl, rfl, rfl⟩) (HV.nei rfl rfl) ?_
        refine AL.val rfl (.inl rfl) (HV.pickF rfl rfl) ?_
        refine AL.val rfl (.inl rfl) (HV.mv rfl) ?_
        by_cases c74 : (0 : Int) ≠ 0
        · -- true
          have c74_ : decide ((0 : Int) ≠ 0) = true := decide_eq_true c74
          rw [c74_]
          refine AL.off rfl rfl (by decide) rfl ?_
          refine AL.off rfl rfl (by decide) rfl ?_
          refine AL.off rfl rfl (by decide) rfl ?_
          refine AL.off rfl rfl (by decide) rfl ?_
          refine AL.val rfl (.inl rfl) (HV.pickT rfl rfl) ?_
          refine AL.val rfl (.inl rfl) (HV.mv rfl) ?_
          refine AL.off rfl rfl (by decide) rfl ?_
          refine AL.off rfl rfl (by decide) rfl ?_
          refine AL.off rfl rfl (by decide) rfl ?_
          refine AL.off rfl rfl (by decide) rfl ?_
          refine AL.val rfl (.inl rfl) (HV.pickT rfl rfl) ?_
          refine AL.val rfl (.inl rfl) (HV.mv rfl) ?_
          refine AL.off rfl rfl (by decide) rfl ?_
          refine AL.off rfl rfl (by decide) rfl ?_
          refine AL.off rfl rfl (by decide) rfl ?_
          refine AL.off rfl rfl (by decide) rfl ?_
          refine AL.val rfl (.inl rfl) (HV.pickT rfl rfl) ?_
          refine AL.nx ?_
          refine AW.cond rfl (fun _ => ?_) (fun h => by cases h)
          refine AW.rs ?_
          refine AL.val rfl (.inl rfl) (HV.as rfl) ?_
          refine AL.nx ?_
          refine AW.ret ?_
          refine ret_and ?_
          refine post_one rfl rfl ?_ (.inr rfl)
          exfalso; first | omega | exact c74 rfl | exact c74 hVs | exact c74 hVt | exact c74 hvS
        · -- false
          have c74_ : decide ((0 : Int) ≠ 0) = false := decide_eq_false c74
          rw [c74_]
          refine AL.val rfl (.inr ⟨_, _, _, rfl, rfl, rfl⟩) (HV.mv rfl) ?_
          refine AL.val rfl (.inr ⟨_, _, _, rfl, rfl, rfl⟩) (HV.mv rfl) ?_
          refine AL.w rfl (.inr ⟨_, _, _, rfl, rfl, rfl⟩) (WV.call fn49 rfl (f6ints_ok (hr48.ext X69) hr65)) ?_
          rintro _ H76 ⟨rfl, hx77⟩
          have X78 := Ext.trans X66 hx77
          have X79 := Ext.trans X67 hx77
          have X80 := Ext.trans X68 hx77
          have X81 := Ext.trans X69 hx77
          have X82 := Ext.trans X70 hx77
          have X83 := Ext.trans X71 hx77
          refine AL.val rfl (.inr ⟨_, _, _, rfl, rfl, rfl⟩) (HV.not rfl) ?_
          refine AL.val rfl (.inl rfl) (HV.pickF rfl rfl) ?_
          refine AL.val rfl (.inl rfl) (HV.mv rfl) ?_
          by_cases c84 : cs = cs
          · -- false
            have c84_ : (!decide (cs = cs)) = false := by rw [decide_eq_true c84]; rfl
            rw [c84_]
            refine AL.val rfl (.inr ⟨_, _, _, rfl, rfl, rfl⟩) (HV.mv rfl) ?_
            refine AL.val rfl (.inr ⟨_, _, _, rfl, rfl, rfl⟩) (HV.mv rfl) ?_
            refine AL.w rfl (.inr ⟨_, _, _, rfl, rfl, rfl⟩) (WV.call fn59 rfl (validCu_ok (p := p) (hr48.ext X81))) ?_
            rintro _ H85 ⟨rfl, hx86⟩
            have X87 := Ext.trans X78 hx86
            have X88 := Ext.trans X79 hx86
            have X89 := Ext.trans X80 hx86
            have X90 := Ext.trans X81 hx86
            have X91 := Ext.trans X82 hx86
            have X92 := Ext.trans X83 hx86
            refine AL.val rfl (.inr ⟨_, _, _, rfl, rfl, rfl⟩) (HV.not rfl) ?_
            refine AL.val rfl (.inl rfl) (HV.pickF rfl rfl) ?_
            refine AL.val rfl (.inl rfl) (HV.mv rfl) ?_
            by_cases c93 : primeI p ∧ curveI p cs
            · -- false
              have c93_ : (!decide (primeI p ∧ curveI p cs)) = false := by rw [decide_eq_true c93]; rfl
              rw [c93_]
              refine AL.val rfl (.inr ⟨_, _, _, rfl, rfl, rfl⟩) (HV.mv rfl) ?_
              refine AL.val rfl (.inr ⟨_, _, _, rfl, rfl, rfl⟩) (HV.mv rfl) ?_
              refine AL.w rfl (.inr ⟨_, _, _, rfl, rfl, rfl⟩) (WV.call fn59 rfl (validCu_ok (p := p) (hr56.ext X91))) ?_
              rintro _ H94 ⟨rfl, hx95⟩
              have X96 := Ext.trans X87 hx95
              have X97 := Ext.trans X88 hx95
              have X98 := Ext.trans X89 hx95
              have X99 := Ext.trans X90 hx95
              have X100 := Ext.trans X91 hx95
              have X101 := Ext.trans X92 hx95
              refine AL.val rfl (.inr ⟨_, _, _, rfl, rfl, rfl⟩) (HV.not rfl) ?_
              refine AL.val rfl (.inl rfl) (HV.pickF rfl rfl) ?_
              refine AL.nx ?_
              refine AW.ifn rfl (fun c102 => ?_) (fun c102 => ?_)
              · -- then
                refine AW.rs ?_
                refine AL.val rfl (.inl rfl) (HV.as rfl) ?_
                refine AL.nx ?_
                refine AW.ret ?_
                refine ret_and ?_
                refine post_one rfl rfl ?_ (.inr rfl)
                exfalso; first | omega | exact c102 rfl | exact c102 hVs | exact c102 hVt | exact c102 hvS
              · -- else
                refine AW.skip ?_
                refine nrm_and ?_
                refine AW.rs ?_
                refine AL.val rfl (.inl rfl) (HV.mv rfl) ?_
                refine AL.val rfl (.inl rfl) (HV.mv rfl) ?_
                refine AL.val rfl (.inl rfl) (HV.mv rfl) ?_
                refine AL.w rfl (.inl rfl) (WV.call fn48 rfl (cuAt_ok p (hr21.ext X97) x ⟨hP.1, hca⟩ (by omega))) ?_
                rintro _ H103 ⟨rfl, hx104⟩
                have X105 := Ext.trans X96 hx104
                have X106 := Ext.trans X97 hx104
                have X107 := Ext.trans X98 hx104
                have X108 := Ext.trans X99 hx104
                have X109 := Ext.trans X100 hx104
                have X110 := Ext.trans X101 hx104
                refine AL.val rfl (.inl rfl) (HV.mv rfl) ?_
                refine AL.val rfl (.inl rfl) (HV.ex rfl rfl) ?_
                refine AL.val rfl (.inl rfl) (HV.ex rfl rfl) ?_
                refine AL.val rfl (.inl rfl) (HV.as rfl) ?_
                refine AL.val rfl (.inl rfl) (HV.as rfl) ?_
                refine AL.nx ?_
                refine AW.rs ?_
                refine AL.val rfl (.inl rfl) (HV.mv rfl) ?_
                refine AL.val rfl (.inl rfl) (HV.mv rfl) ?_
                refine AL.val rfl (.inl rfl) (HV.mv rfl) ?_
                refine AL.w rfl (.inl rfl) (WV.call fn48 rfl (cuAt_ok p (hr29.ext X107) x ⟨hP.1, hcb⟩ (by omega))) ?_
                rintro _ H111 ⟨rfl, hx112⟩
                have X113 := Ext.trans X105 hx112
                have X114 := Ext.trans X106 hx112
                have X115 := Ext.trans X107 hx112
                have X116 := Ext.trans X108 hx112
                have X117 := Ext.trans X109 hx112
                have X118 := Ext.trans X110 hx112
                refine AL.val rfl (.inl rfl) (HV.mv rfl) ?_
                refine AL.val rfl (.inl rfl) (HV.ex rfl rfl) ?_
                refine AL.val rfl (.inl rfl) (HV.ex rfl rfl) ?_
                refine AL.val rfl (.inl rfl) (HV.as rfl) ?_
                refine AL.val rfl (.inl rfl) (HV.as rfl) ?_
                refine AL.nx ?_
                refine AW.rs ?_
                refine AL.val rfl (.inl rfl) (HV.mv rfl) ?_
                refine AL.val rfl (.inl rfl) (HV.mv rfl) ?_
                refine AL.val rfl (.inl rfl) (HV.mv rfl) ?_
                refine AL.w rfl (.inl rfl) (WV.call fn48 rfl (cuAt_ok p (hr48.ext X116) x ⟨hP.1, hVs.2⟩ (by omega))) ?_
                rintro _ H119 ⟨rfl, hx120⟩
                have X121 := Ext.trans X113 hx120
                have X122 := Ext.trans X114 hx120
                have X123 := Ext.trans X115 hx120
                have X124 := Ext.trans X116 hx120
                have X125 := Ext.trans X117 hx120
                have X126 := Ext.trans X118 hx120
                refine AL.val rfl (.inl rfl) (HV.mv rfl) ?_
                refine AL.val rfl (.inl rfl) (HV.ex rfl rfl) ?_
                refine AL.val rfl (.inl rfl) (HV.ex rfl rfl) ?_
                refine AL.val rfl (.inl rfl) (HV.as rfl) ?_
                refine AL.val rfl (.inl rfl) (HV.as rfl) ?_
                refine AL.nx ?_
                refine AW.rs ?_
                refine AL.val rfl (.inl rfl) (HV.mv rfl) ?_
                refine AL.val rfl (.inl rfl) (HV.mv rfl) ?_
                refine AL.val rfl (.inl rfl) (HV.mv rfl) ?_
                refine AL.w rfl (.inl rfl) (WV.call fn48 rfl (cuAt_ok p (hr56.ext X125) x ⟨hP.1, hVt.2⟩ (by omega))) ?_
                rintro _ H127 ⟨rfl, hx128⟩
                have X129 := Ext.trans X121 hx128
                have X130 := Ext.trans X122 hx128
                have X131 := Ext.trans X123 hx128
                have X132 := Ext.trans X124 hx128
                have X133 := Ext.trans X125 hx128
                have X134 := Ext.trans X126 hx128
                refine AL.val rfl (.inl rfl) (HV.mv rfl) ?_
                refine AL.val rfl (.inl rfl) (HV.ex rfl rfl) ?_
                refine AL.val rfl (.inl rfl) (HV.ex rfl rfl) ?_
                refine AL.val rfl (.inl rfl) (HV.as rfl) ?_
                refine AL.val rfl (.inl rfl) (HV.as rfl) ?_
                refine AL.nx ?_
                refine AW.seq ?_
                refine AW.rs ?_
                refine AL.val rfl (.inl rfl) (HV.mv rfl) ?_
                refine AL.val rfl (.inl rfl) (HV.nei rfl rfl) ?_
                refine AL.val rfl (.inl rfl) (HV.mv rfl) ?_
                by_cases c135 : (0 : Int) ≠ 0
                · -- true
                  have c135_ : decide ((0 : Int) ≠ 0) = true := decide_eq_true c135
                  rw [c135_]
                  refine AL.off rfl rfl (by decide) rfl ?_
                  refine AL.off rfl rfl (by decide) rfl ?_
                  refine AL.val rfl (.inl rfl) (HV.pickT rfl rfl) ?_
                  refine AL.val rfl (.inl rfl) (HV.mv rfl) ?_
                  refine AL.off rfl rfl (by decide) rfl ?_
                  refine AL.off rfl rfl (by decide) rfl ?_
                  refine AL.val rfl (.inl rfl) (HV.pickT rfl rfl) ?_
                  refine AL.val rfl (.inl rfl) (HV.mv rfl) ?_
                  refine AL.off rfl rfl (by decide) rfl ?_
                  refine AL.off rfl rfl (by decide) rfl ?_
                  refine AL.val rfl (.inl rfl) (HV.pickT rfl rfl) ?_
                  refine AL.val rfl (.inl rfl) (HV.mv rfl) ?_
                  refine AL.off rfl rfl (by decide) rfl ?_
                  refine AL.off rfl rfl (by decide) rfl ?_
                  refine AL.off rfl rfl (by decide) rfl ?_
                  refine AL.off rfl rfl (by decide) rfl ?_
                  refine AL.off rfl rfl (by decide) rfl ?_
                  refine AL.off rfl rfl (by decide) rfl ?_
                  refine AL.off rfl rfl (by decide) rfl ?_
                  refine AL.val rfl (.inl rfl) (HV.pickT rfl rfl) ?_
                  refine AL.val rfl (.inl rfl) (HV.mv rfl) ?_
                  refine AL.off rfl rfl (by decide) rfl ?_
                  refine AL.off rfl rfl (by decide) rfl ?_
                  refine AL.off rfl rfl (by decide) rfl ?_
                  refine AL.off rfl rfl (by decide) rfl ?_
                  refine AL.off rfl rfl (by decide) rfl ?_
                  refine AL.off rfl rfl (by decide) rfl ?_
                  refine AL.off rfl rfl (by decide) rfl ?_
                  refine AL.val rfl (.inl rfl) (HV.pickT rfl rfl) ?_
                  refine AL.nx ?_
                  refine AW.cond rfl (fun _ => ?_) (fun h => by cases h)
                  refine AW.rs ?_
                  refine AL.val rfl (.inl rfl) (HV.as rfl) ?_
                  refine AL.nx ?_
                  refine AW.ret ?_
                  refine ret_and ?_
                  refine post_one rfl rfl ?_ (.inr rfl)
                  exfalso; first | omega | exact c135 rfl | exact c135 hVs | exact c135 hVt | exact c135 hvS
                · -- false
                  have c135_ : decide ((0 : Int) ≠ 0) = false := decide_eq_false c135
                  rw [c135_]
                  refine AL.val rfl (.inr ⟨_, _, _, rfl, rfl, rfl⟩) (HV.mv rfl) ?_
                  refine AL.val rfl (.inr ⟨_, _, _, rfl, rfl, rfl⟩) (HV.nei rfl rfl) ?_
                  refine AL.val rfl (.inl rfl) (HV.pickF rfl rfl) ?_
                  refine AL.val rfl (.inl rfl) (HV.mv rfl) ?_
                  by_cases c137 : (0 : Int) ≠ 0
                  · -- true
                    have c137_ : decide ((0 : Int) ≠ 0) = true := decide_eq_true c137
                    rw [c137_]
                    refine AL.off rfl rfl (by decide) rfl ?_
                    refine AL.off rfl rfl (by decide) rfl ?_
                    refine AL.val rfl (.inl rfl) (HV.pickT rfl rfl) ?_
                    refine AL.val rfl (.inl rfl) (HV.mv rfl) ?_
                    refine AL.off rfl rfl (by decide) rfl ?_
                    refine AL.off rfl rfl (by decide) rfl ?_
                    refine AL.val rfl (.inl rfl) (HV.pickT rfl rfl) ?_
                    refine AL.val rfl (.inl rfl) (HV.mv rfl) ?_
                    refine AL.off rfl rfl (by decide) rfl ?_
                    refine AL.off rfl rfl (by decide) rfl ?_
                    refine AL.off rfl rfl (by decide) rfl ?_
                    refine AL.off rfl rfl (by decide) rfl ?_
                    refine AL.off rfl rfl (by decide) rfl ?_
                    refine AL.off rfl rfl (by decide) rfl ?_
                    refine AL.off rfl rfl (by decide) rfl ?_
                    refine AL.val rfl (.inl rfl) (HV.pickT rfl rfl) ?_
                    refine AL.val rfl (.inl rfl) (HV.mv rfl) ?_
                    refine AL.off rfl rfl (by decide) rfl ?_
                    refine AL.off rfl rfl (by decide) rfl ?_
                    refine AL.off rfl rfl (by decide) rfl ?_
                    refine AL.off rfl rfl (by decide) rfl ?_
                    refine AL.off rfl rfl (by decide) rfl ?_
                    refine AL.off rfl rfl (by decide) rfl ?_
                    refine AL.off rfl rfl (by decide) rfl ?_
                    refine AL.val rfl (.inl rfl) (HV.pickT rfl rfl) ?_
                    refine AL.nx ?_
                    refine AW.cond rfl (fun _ => ?_) (fun h => by cases h)
                    refine AW.rs ?_
                    refine AL.val rfl (.inl rfl) (HV.as rfl) ?_
                    refine AL.nx ?_
                    refine AW.ret ?_
                    refine ret_and ?_
                    refine post_one rfl rfl ?_ (.inr rfl)
                    exfalso; first | omega | exact c137 rfl | exact c137 hVs | exact c137 hVt | exact c137 hvS
                  · -- false
                    have c137_ : decide ((0 : Int) ≠ 0) = false := decide_eq_false c137
                    rw [c137_]
                    refine AL.val rfl (.inr ⟨_, _, _, rfl, rfl, rfl⟩) (HV.mv rfl) ?_
                    refine AL.val rfl (.inr ⟨_, _, _, rfl, rfl, rfl⟩) (HV.nei rfl rfl) ?_
                    refine AL.val rfl (.inl rfl) (HV.pickF rfl rfl) ?_
                    refine AL.val rfl (.inl rfl) (HV.mv rfl) ?_
                    by_cases c139 : (0 : Int) ≠ 0
                    · -- true
                      have c139_ : decide ((0 : Int) ≠ 0) = true := decide_eq_true c139
                      rw [c139_]
                      refine AL.off rfl rfl (by decide) rfl ?_
                      refine AL.off rfl rfl (by decide) rfl ?_
                      refine AL.val rfl (.inl rfl) (HV.pickT rfl rfl) ?_
                      refine AL.val rfl (.inl rfl) (HV.mv rfl) ?_
                      refine AL.off rfl rfl (by decide) rfl ?_
                      refine AL.off rfl rfl (by decide) rfl ?_
                      refine AL.off rfl rfl (by decide) rfl ?_
                      refine AL.off rfl rfl (by decide) rfl ?_
                      refine AL.off rfl rfl (by decide) rfl ?_
                      refine AL.off rfl rfl (by decide) rfl ?_
                      refine AL.off rfl rfl (by decide) rfl ?_
                      refine AL.val rfl (.inl rfl) (HV.pickT rfl rfl) ?_
                      refine AL.val rfl (.inl rfl) (HV.mv rfl) ?_
                      refine AL.off rfl rfl (by decide) rfl ?_
                      refine AL.off rfl rfl (by decide) rfl ?_
                      refine AL.off rfl rfl (by decide) rfl ?_
                      refine AL.off rfl rfl (by decide) rfl ?_
                      refine AL.off rfl rfl (by decide) rfl ?_
                      refine AL.off rfl rfl (by decide) rfl ?_
                      refine AL.off rfl rfl (by decide) rfl ?_
                      refine AL.val rfl (.inl rfl) (HV.pickT rfl rfl) ?_
                      refine AL.nx ?_
                      refine AW.cond rfl (fun _ => ?_) (fun h => by cases h)
                      refine AW.rs ?_
                      refine AL.val rfl (.inl rfl) (HV.as rfl) ?_
                      refine AL.nx ?_
                      refine AW.ret ?_
                      refine ret_and ?_
                      refine post_one rfl rfl ?_ (.inr rfl)
                      exfalso; first | omega | exact c139 rfl | exact c139 hVs | exact c139 hVt | exact c139 hvS
                    · -- false
                      have c139_ : decide ((0 : Int) ≠ 0) = false := decide_eq_false c139
                      rw [c139_]
                      refine AL.val rfl (.inr ⟨_, _, _, rfl, rfl, rfl⟩) (HV.mv rfl) ?_
                      refine AL.val rfl (.inr ⟨_, _, _, rfl, rfl, rfl⟩) (HV.nei rfl rfl) ?_
                      refine AL.val rfl (.inl rfl) (HV.pickF rfl rfl) ?_
                      refine AL.val rfl (.inl rfl) (HV.mv rfl) ?_
                      by_cases c141 : (0 : Int) ≠ 0
                      · -- true
                        have c141_ : decide ((0 : Int) ≠ 0) = true := decide_eq_true c141
                        rw [c141_]
                        refine AL.off rfl rfl (by decide) rfl ?_
                        refine AL.off rfl rfl (by decide) rfl ?_
                        refine AL.off rfl rfl (by decide) rfl ?_
                        refine AL.off rfl rfl (by decide) rfl ?_
                        refine AL.off rfl rfl (by decide) rfl ?_
                        refine AL.off rfl rfl (by decide) rfl ?_
                        refine AL.off rfl rfl (by decide) rfl ?_
                        refine AL.val rfl (.inl rfl) (HV.pickT rfl rfl) ?_
                        refine AL.val rfl (.inl rfl) (HV.mv rfl) ?_
                        refine AL.off rfl rfl (by decide) rfl ?_
                        refine AL.off rfl rfl (by decide) rfl ?_
                        refine AL.off rfl rfl (by decide) rfl ?_
                        refine AL.off rfl rfl (by decide) rfl ?_
                        refine AL.off rfl rfl (by decide) rfl ?_
                        refine AL.off rfl rfl (by decide) rfl ?_
                        refine AL.off rfl rfl (by decide) rfl ?_
                        refine AL.val rfl (.inl rfl) (HV.pickT rfl rfl) ?_
                        refine AL.nx ?_
                        refine AW.cond rfl (fun _ => ?_) (fun h => by cases h)
                        refine AW.rs ?_
                        refine AL.val rfl (.inl rfl) (HV.as rfl) ?_
                        refine AL.nx ?_
                        refine AW.ret ?_
                        refine ret_and ?_
                        refine post_one rfl rfl ?_ (.inr rfl)
                        exfalso; first | omega | exact c141 rfl | exact c141 hVs | exact c141 hVt | exact c141 hvS
                      · -- false
                        have c141_ : decide ((0 : Int) ≠ 0) = false := decide_eq_false c141
                        rw [c141_]
                        refine AL.val rfl (.inr ⟨_, _, _, rfl, rfl, rfl⟩) (HV.mv rfl) ?_
                        refine AL.val rfl (.inr ⟨_, _, _, rfl, rfl, rfl⟩) (HV.mv rfl) ?_
                        refine AL.val rfl (.inr ⟨_, _, _, rfl, rfl, rfl⟩) (HV.add rfl rfl (by omega)) ?_
                        refine AL.val rfl (.inr ⟨_, _, _, rfl, rfl, rfl⟩) (HV.mv rfl) ?_
                        refine AL.val rfl (.inr ⟨_, _, _, rfl, rfl, rfl⟩) (HV.rem rfl rfl (by omega)) ?_
                        refine AL.val rfl (.inr ⟨_, _, _, rfl, rfl, rfl⟩) (HV.mv rfl) ?_
                        refine AL.val rfl (.inr ⟨_, _, _, rfl, rfl, rfl⟩) (HV.nei rfl rfl) ?_
                        refine AL.val rfl (.inl rfl) (HV.pickF rfl rfl) ?_
                        refine AL.val rfl (.inl rfl) (HV.mv rfl) ?_
                        by_cases c143 : (((val p ca x) + (val p cb x)) % p) ≠ (val p cs x)
                        · -- true
                          have c143_ : decide ((((val p ca x) + (val p cb x)) % p) ≠ (val p cs x)) = true := decide_eq_true c143
                          rw [c143_]
                          refine AL.off rfl rfl (by decide) rfl ?_
                          refine AL.off rfl rfl (by decide) rfl ?_
                          refine AL.off rfl rfl (by decide) rfl ?_
                          refine AL.off rfl rfl (by decide) rfl ?_
                          refine AL.off rfl rfl (by decide) rfl ?_
                          refine AL.off rfl rfl (by decide) rfl ?_
                          refine AL.off rfl rfl (by decide) rfl ?_
                          refine AL.val rfl (.inl rfl) (HV.pickT rfl rfl) ?_
                          refine AL.nx ?_
                          refine AW.cond rfl (fun _ => ?_) (fun h => by cases h)
                          refine AW.rs ?_
                          refine AL.val rfl (.inl rfl) (HV.as rfl) ?_
                          refine AL.nx ?_
                          refine AW.ret ?_
                          refine ret_and ?_
                          refine post_one rfl rfl ?_ (.inr rfl)
                          exfalso; first | omega | exact c143 rfl | exact c143 hVs | exact c143 hVt | exact c143 hvS
                        · -- false
                          have c143_ : decide ((((val p ca x) + (val p cb x)) % p) ≠ (val p cs x)) = false := decide_eq_false c143
                          rw [c143_]
                          refine AL.val rfl (.inr ⟨_, _, _, rfl, rfl, rfl⟩) (HV.mv rfl) ?_
                          refine AL.val rfl (.inr ⟨_, _, _, rfl, rfl, rfl⟩) (HV.mv rfl) ?_
                          refine AL.val rfl (.inr ⟨_, _, _, rfl, rfl, rfl⟩) (HV.mul rfl rfl (by omega)) ?_
                          refine AL.val rfl (.inr ⟨_, _, _, rfl, rfl, rfl⟩) (HV.mv rfl) ?_
                          refine AL.val rfl (.inr ⟨_, _, _, rfl, rfl, rfl⟩) (HV.rem rfl rfl (by omega)) ?_
                          refine AL.val rfl (.inr ⟨_, _, _, rfl, rfl, rfl⟩) (HV.mv rfl) ?_
                          refine AL.val rfl (.inr ⟨_, _, _, rfl, rfl, rfl⟩) (HV.nei rfl rfl) ?_
                          refine AL.val rfl (.inl rfl) (HV.pickF rfl rfl) ?_
                          refine AL.nx ?_
                          refine AW.ifd rfl (fun c145 => ?_) (fun c145 => ?_)
                          · -- then
                            refine AW.rs ?_
                            refine AL.val rfl (.inl rfl) (HV.as rfl) ?_
                            refine AL.nx ?_
                            refine AW.ret ?_
                            refine ret_and ?_
                            refine post_one rfl rfl ?_ (.inr rfl)
                            exfalso; first | omega | exact c145 rfl | exact c145 hVs | exact c145 hVt | exact c145 hvS
                          · -- else
                            refine AW.skip ?_
                            refine nrm_and ?_
                            refine AW.rs ?_
                            refine AL.val rfl (.inl rfl) (HV.mv rfl) ?_
                            refine AL.val rfl (.inl rfl) (HV.mv rfl) ?_
                            refine AL.val rfl (.inl rfl) (HV.mv rfl) ?_
                            refine AL.val rfl (.inl rfl) (HV.len Try.underlying24 rfl hr21.isSl) ?_
                            refine AL.w rfl (.inl rfl) (WV.call fn44 rfl (p6Points_ok (hr2.ext X129) hby2 p (ca.length : Int) (by omega) (by omega))) ?_
                            rintro v146 H147 ⟨⟨pts, ho149, h150⟩, hx148⟩
                            have X152 := Ext.trans X129 hx148
                            have X153 := Ext.trans X130 hx148
                            have X154 := Ext.trans X131 hx148
                            have X155 := Ext.trans X132 hx148
                            have X156 := Ext.trans X133 hx148
                            have X157 := Ext.trans X134 hx148
                            have X158 := Ext.refl H147
                            have hr151 := ho149.rd
                            have hpt : ptsI p pts := ⟨by have := h150.2.1; omega, h150.1⟩
                            have hpl := h150.2.2
                            have hpl10 := h150.2.1
                            refine AL.val rfl (.inl rfl) (HV.as rfl) ?_
                            refine AL.nx ?_
                            refine AW.rs ?_
                            refine AL.val rfl (.inl rfl) (HV.mv rfl) ?_
                            refine AL.val rfl (.inl rfl) (HV.mv rfl) ?_
                            refine AL.val rfl (.inl rfl) (HV.mv rfl) ?_
                            refine AL.w rfl (.inl rfl) (WV.call fn60 rfl (dealI_ok p (hr21.ext X153) hr151 ⟨hP.1, hca⟩ hpt)) ?_
                            rintro _ H160 ⟨⟨v159, rfl, hr162⟩, hx161⟩
                            have X163 := Ext.trans X152 hx161
                            have X164 := Ext.trans X153 hx161
                            have X165 := Ext.trans X154 hx161
                            have X166 := Ext.trans X155 hx161
                            have X167 := Ext.trans X156 hx161
                            have X168 := Ext.trans X157 hx161
                            have X169 := Ext.trans X158 hx161
                            have X170 := Ext.refl H160
                            have hr171 : RdK (kP kI kI) W H160 _ v159 (dl p ca pts) := hr162.rd
                            refine AL.val rfl (.inl rfl) (HV.mv rfl) ?_
                            refine AL.val rfl (.inl rfl) (HV.ex rfl rfl) ?_
                            refine AL.val rfl (.inl rfl) (HV.ex rfl rfl) ?_
                            refine AL.val rfl (.inl rfl) (HV.as rfl) ?_
                            refine AL.val rfl (.inl rfl) (HV.as rfl) ?_
                            refine AL.nx ?_
                            refine AW.rs ?_
                            refine AL.val rfl (.inl rfl) (HV.mv rfl) ?_
                            refine AL.val rfl (.inl rfl) (HV.mv rfl) ?_
                            refine AL.val rfl (.inl rfl) (HV.mv rfl) ?_
                            refine AL.w rfl (.inl rfl) (WV.call fn50 rfl (dealSh_ok p (hr21.ext X164) (hr151.ext X169) ⟨hP.1, hca⟩ hpt)) ?_
                            rintro _ H173 ⟨⟨v172, rfl, hr175⟩, hx174⟩
                            have X176 := Ext.trans X163 hx174
                            have X177 := Ext.trans X164 hx174
                            have X178 := Ext.trans X165 hx174
                            have X179 := Ext.trans X166 hx174
                            have X180 := Ext.trans X167 hx174
                            have X181 := Ext.trans X168 hx174
                            have X182 := Ext.trans X169 hx174
                            have X183 := Ext.trans X170 hx174
                            have X184 := Ext.refl H173
                            have hr185 : RdK (kP kI kI) W H173 _ v172 (dl p ca pts) := hr175.rd
                            refine AL.val rfl (.inl rfl) (HV.mv rfl) ?_
                            have hvS : vS p (dl p ca pts) := vS_dl hP.1 hpt
                            have hdl := dl_len p ca pts
                            have hthr := dl_thr hP.1 hca hpt (show ca.length ≤ pts.length by omega)
                            have hthl : (throughM p ((dl p ca pts).map Prod.fst) ((dl p ca pts).map Prod.snd)).length = ca.length := by rw [hthr]
                            have hop := dl_open hP.1 hpt (show ca.length ≤ pts.length by omega) x
                            refine AL.val rfl (.inl rfl) (HV.ex rfl rfl) ?_
                            refine AL.val rfl (.inl rfl) (HV.ex rfl rfl) ?_
                            refine AL.val rfl (.inl rfl) (HV.as rfl) ?_
                            refine AL.val rfl (.inl rfl) (HV.as rfl) ?_
                            refine AL.nx ?_
                            refine AW.seq ?_
                            refine AW.rs ?_
                            refine AL.val rfl (.inl rfl) (HV.mv rfl) ?_
                            refine AL.val rfl (.inl rfl) (HV.mv rfl) ?_
                            refine AL.val rfl (.inl rfl) (HV.nei rfl rfl) ?_
                            refine AL.val rfl (.inl rfl) (HV.mv rfl) ?_
                            by_cases c186 : (0 : Int) ≠ 0
                            · -- true
                              have c186_ : decide ((0 : Int) ≠ 0) = true := decide_eq_true c186
                              rw [c186_]
                              refine AL.off rfl rfl (by decide) rfl ?_
                              refine AL.off rfl rfl (by decide) rfl ?_
                              refine AL.val rfl (.inl rfl) (HV.pickT rfl rfl) ?_
                              refine AL.val rfl (.inl rfl) (HV.mv rfl) ?_
                              refine AL.off rfl rfl (by decide) rfl ?_
                              refine AL.off rfl rfl (by decide) rfl ?_
                              refine AL.off rfl rfl (by decide) rfl ?_
                              refine AL.off rfl rfl (by decide) rfl ?_
                              refine AL.val rfl (.inl rfl) (HV.pickT rfl rfl) ?_
                              refine AL.val rfl (.inl rfl) (HV.mv rfl) ?_
                              refine AL.off rfl rfl (by decide) rfl ?_
                              refine AL.off rfl rfl (by decide) rfl ?_
                              refine AL.off rfl rfl (by decide) rfl ?_
                              refine AL.off rfl rfl (by decide) rfl ?_
                              refine AL.val rfl (.inl rfl) (HV.pickT rfl rfl) ?_
                              refine AL.val rfl (.inl rfl) (HV.mv rfl) ?_
                              refine AL.off rfl rfl (by decide) rfl ?_
                              refine AL.off rfl rfl (by decide) rfl ?_
                              refine AL.off rfl rfl (by decide) rfl ?_
                              refine AL.off rfl rfl (by decide) rfl ?_
                              refine AL.off rfl rfl (by decide) rfl ?_
                              refine AL.val rfl (.inl rfl) (HV.pickT rfl rfl) ?_
                              refine AL.nx ?_
                              refine AW.cond rfl (fun _ => ?_) (fun h => by cases h)
                              refine AW.rs ?_
                              refine AL.val rfl (.inl rfl) (HV.as rfl) ?_
                              refine AL.nx ?_
                              refine AW.ret ?_
                              refine ret_and ?_
                              refine post_one rfl rfl ?_ (.inr rfl)
                              exfalso; first | omega | exact c186 rfl | exact c186 hVs | exact c186 hVt | exact c186 hvS
                            · -- false
                              have c186_ : decide ((0 : Int) ≠ 0) = false := decide_eq_false c186
                              rw [c186_]
                              refine AL.val rfl (.inr ⟨_, _, _, rfl, rfl, rfl⟩) (HV.mv rfl) ?_
                              refine AL.val rfl (.inr ⟨_, _, _, rfl, rfl, rfl⟩) (HV.nei rfl rfl) ?_
                              refine AL.val rfl (.inl rfl) (HV.pickF rfl rfl) ?_
                              refine AL.val rfl (.inl rfl) (HV.mv rfl) ?_
                              by_cases c188 : (0 : Int) ≠ 0
                              · -- true
                                have c188_ : decide ((0 : Int) ≠ 0) = true := decide_eq_true c188
                                rw [c188_]
                                refine AL.off rfl rfl (by decide) rfl ?_
                                refine AL.off rfl rfl (by decide) rfl ?_
                                refine AL.off rfl rfl (by decide) rfl ?_
                                refine AL.off rfl rfl (by decide) rfl ?_
                                refine AL.val rfl (.inl rfl) (HV.pickT rfl rfl) ?_
                                refine AL.val rfl (.inl rfl) (HV.mv rfl) ?_
                                refine AL.off rfl rfl (by decide) rfl ?_
                                refine AL.off rfl rfl (by decide) rfl ?_
                                refine AL.off rfl rfl (by decide) rfl ?_
                                refine AL.off rfl rfl (by decide) rfl ?_
                                refine AL.val rfl (.inl rfl) (HV.pickT rfl rfl) ?_
                                refine AL.val rfl (.inl rfl) (HV.mv rfl) ?_
                                refine AL.off rfl rfl (by decide) rfl ?_
                                refine AL.off rfl rfl (by decide) rfl ?_
                                refine AL.off rfl rfl (by decide) rfl ?_
                                refine AL.off rfl rfl (by decide) rfl ?_
                                refine AL.off rfl rfl (by decide) rfl ?_
                                refine AL.val rfl (.inl rfl) (HV.pickT rfl rfl) ?_
                                refine AL.nx ?_
                                refine AW.cond rfl (fun _ => ?_) (fun h => by cases h)
                                refine AW.rs ?_
                                refine AL.val rfl (.inl rfl) (HV.as rfl) ?_
                                refine AL.nx ?_
                                refine AW.ret ?_
                                refine ret_and ?_
                                refine post_one rfl rfl ?_ (.inr rfl)
                                exfalso; first | omega | exact c188 rfl | exact c188 hVs | exact c188 hVt | exact c188 hvS
                              · -- false
                                have c188_ : decide ((0 : Int) ≠ 0) = false := decide_eq_false c188
                                rw [c188_]
                                refine AL.val rfl (.inr ⟨_, _, _, rfl, rfl, rfl⟩) (HV.mv rfl) ?_
                                refine AL.val rfl (.inr ⟨_, _, _, rfl, rfl, rfl⟩) (HV.mv rfl) ?_
                                refine AL.w rfl (.inr ⟨_, _, _, rfl, rfl, rfl⟩) (WV.call fn61 rfl (f6sh_ok (hr171.ext X183) hr185)) ?_
                                rintro _ H190 ⟨rfl, hx191⟩
                                have X192 := Ext.trans X176 hx191
                                have X193 := Ext.trans X177 hx191
                                have X194 := Ext.trans X178 hx191
                                have X195 := Ext.trans X179 hx191
                                have X196 := Ext.trans X180 hx191
                                have X197 := Ext.trans X181 hx191
                                have X198 := Ext.trans X182 hx191
                                have X199 := Ext.trans X183 hx191
                                have X200 := Ext.trans X184 hx191
                                refine AL.val rfl (.inr ⟨_, _, _, rfl, rfl, rfl⟩) (HV.not rfl) ?_
                                refine AL.val rfl (.inl rfl) (HV.pickF rfl rfl) ?_
                                refine AL.val rfl (.inl rfl) (HV.mv rfl) ?_
                                by_cases c201 : (dl p ca pts) = (dl p ca pts)
                                · -- false
                                  have c201_ : (!decide ((dl p ca pts) = (dl p ca pts))) = false := by rw [decide_eq_true c201]; rfl
                                  rw [c201_]
                                  refine AL.val rfl (.inr ⟨_, _, _, rfl, rfl, rfl⟩) (HV.mv rfl) ?_
                                  refine AL.val rfl (.inr ⟨_, _, _, rfl, rfl, rfl⟩) (HV.mv rfl) ?_
                                  refine AL.w rfl (.inr ⟨_, _, _, rfl, rfl, rfl⟩) (WV.call fn62 rfl (implVS_ok (hr171.ext X199) p (by omega))) ?_
                                  rintro _ H202 ⟨rfl, hx203⟩
                                  have X204 := Ext.trans X192 hx203
                                  have X205 := Ext.trans X193 hx203
                                  have X206 := Ext.trans X194 hx203
                                  have X207 := Ext.trans X195 hx203
                                  have X208 := Ext.trans X196 hx203
                                  have X209 := Ext.trans X197 hx203
                                  have X210 := Ext.trans X198 hx203
                                  have X211 := Ext.trans X199 hx203
                                  have X212 := Ext.trans X200 hx203
                                  refine AL.val rfl (.inr ⟨_, _, _, rfl, rfl, rfl⟩) (HV.not rfl) ?_
                                  refine AL.val rfl (.inl rfl) (HV.pickF rfl rfl) ?_
                                  refine AL.val rfl (.inl rfl) (HV.mv rfl) ?_
                                  by_cases c213 : vS p (dl p ca pts)
                                  · -- false
                                    have c213_ : (!decide (vS p (dl p ca pts))) = false := by rw [decide_eq_true c213]; rfl
                                    rw [c213_]
                                    refine AL.val rfl (.inr ⟨_, _, _, rfl, rfl, rfl⟩) (HV.mv rfl) ?_
                                    refine AL.val rfl (.inr ⟨_, _, _, rfl, rfl, rfl⟩) (HV.len Try.underlying24 rfl hr151.isSl) ?_
                                    refine AL.val rfl (.inr ⟨_, _, _, rfl, rfl, rfl⟩) (HV.mv rfl) ?_
                                    refine AL.val rfl (.inr ⟨_, _, _, rfl, rfl, rfl⟩) (HV.len Try.underlying24 rfl hr21.isSl) ?_
                                    refine AL.val rfl (.inr ⟨_, _, _, rfl, rfl, rfl⟩) (HV.lti rfl rfl) ?_
                                    refine AL.val rfl (.inl rfl) (HV.pickF rfl rfl) ?_
                                    refine AL.nx ?_
                                    refine AW.ifd rfl (fun c214 => ?_) (fun c214 => ?_)
                                    · -- then
                                      refine AW.rs ?_
                                      refine AL.val rfl (.inl rfl) (HV.as rfl) ?_
                                      refine AL.nx ?_
                                      refine AW.ret ?_
                                      refine ret_and ?_
                                      refine post_one rfl rfl ?_ (.inr rfl)
                                      exfalso; first | omega | exact c214 rfl | exact c214 hVs | exact c214 hVt | exact c214 hvS
                                    · -- else
                                      refine AW.skip ?_
                                      refine nrm_and ?_
                                      refine AW.rs ?_
                                      refine AL.val rfl (.inl rfl) (HV.mv rfl) ?_
                                      refine AL.val rfl (.inl rfl) (HV.mv rfl) ?_
                                      refine AL.w rfl (.inl rfl) (WV.call fn25 rfl (cuThr_ok (hr185.ext X212) hvS (by omega))) ?_
                                      rintro _ H216 ⟨⟨v215, rfl, hr218⟩, hx217⟩
                                      have X219 := Ext.trans X204 hx217
                                      have X220 := Ext.trans X205 hx217
                                      have X221 := Ext.trans X206 hx217
                                      have X222 := Ext.trans X207 hx217
                                      have X223 := Ext.trans X208 hx217
                                      have X224 := Ext.trans X209 hx217
                                      have X225 := Ext.trans X210 hx217
                                      have X226 := Ext.trans X211 hx217
                                      have X227 := Ext.trans X212 hx217
                                      have X228 := Ext.refl H216
                                      rw [hthr] at hr218
                                      refine AL.val rfl (.inl rfl) (HV.mv rfl) ?_
                                      refine AL.val rfl (.inl rfl) (HV.ex rfl rfl) ?_
                                      refine AL.val rfl (.inl rfl) (HV.ex rfl rfl) ?_
                                      refine AL.val rfl (.inl rfl) (HV.as rfl) ?_
                                      refine AL.val rfl (.inl rfl) (HV.as rfl) ?_
                                      refine AL.nx ?_
                                      refine AW.rs ?_
                                      refine AL.val rfl (.inl rfl) (HV.mv rfl) ?_
                                      refine AL.val rfl (.inl rfl) (HV.mv rfl) ?_
                                      refine AL.val rfl (.inl rfl) (HV.mv rfl) ?_
                                      refine AL.w rfl (.inl rfl) (WV.call fn63 rfl (openA_ok (hr185.ext X227) hvS x (by omega))) ?_
                                      rintro _ H229 ⟨rfl, hx230⟩
                                      have X231 := Ext.trans X219 hx230
                                      have X232 := Ext.trans X220 hx230
                                      have X233 := Ext.trans X221 hx230
                                      have X234 := Ext.trans X222 hx230
                                      have X235 := Ext.trans X223 hx230
                                      have X236 := Ext.trans X224 hx230
                                      have X237 := Ext.trans X225 hx230
                                      have X238 := Ext.trans X226 hx230
                                      have X239 := Ext.trans X227 hx230
                                      have X240 := Ext.trans X228 hx230
                                      refine AL.val rfl (.inl rfl) (HV.mv rfl) ?_
                                      refine AL.val rfl (.inl rfl) (HV.ex rfl rfl) ?_
                                      refine AL.val rfl (.inl rfl) (HV.ex rfl rfl) ?_
                                      refine AL.val rfl (.inl rfl) (HV.as rfl) ?_
                                      refine AL.val rfl (.inl rfl) (HV.as rfl) ?_
                                      refine AL.nx ?_
                                      refine AW.seq ?_
                                      refine AW.rs ?_
                                      refine AL.val rfl (.inl rfl) (HV.mv rfl) ?_
                                      refine AL.val rfl (.inl rfl) (HV.len Try.underlying24 rfl hr151.isSl) ?_
                                      refine AL.val rfl (.inl rfl) (HV.eqi rfl rfl) ?_
                                      refine AL.nx ?_
                                      refine AW.ifd rfl (fun c245 => ?_) (fun c245 => ?_)
                                      · -- then
                                        refine AW.rs ?_
                                        refine AL.val rfl (.inl rfl) (HV.mv rfl) ?_
                                        refine AL.val rfl (.inl rfl) (HV.eqi rfl rfl) ?_
                                        refine AL.val rfl (.inl rfl) (HV.mv rfl) ?_
                                        by_cases c246 : (0 : Int) = 0
                                        · -- true
                                          have c246_ : decide ((0 : Int) = 0) = true := decide_eq_true c246
                                          rw [c246_]
                                          refine AL.val rfl (.inr ⟨_, _, _, rfl, rfl, rfl⟩) (HV.mv rfl) ?_
                                          refine AL.val rfl (.inr ⟨_, _, _, rfl, rfl, rfl⟩) (HV.eqi rfl rfl) ?_
                                          refine AL.val rfl (.inl rfl) (HV.pickT rfl rfl) ?_
                                          refine AL.val rfl (.inl rfl) (HV.mv rfl) ?_
                                          by_cases c247 : (if ((dl p ca pts).length : Int) = 0 then (4 : Int) else 0) = 4
                                          · -- true
                                            have c247_ : decide ((if ((dl p ca pts).length : Int) = 0 then (4 : Int) else 0) = 4) = true := decide_eq_true c247
                                            rw [c247_]
                                            refine AL.val rfl (.inr ⟨_, _, _, rfl, rfl, rfl⟩) (HV.mv rfl) ?_
                                            refine AL.val rfl (.inr ⟨_, _, _, rfl, rfl, rfl⟩) (HV.len Try.underlying24 rfl hr218.isSl) ?_
                                            refine AL.val rfl (.inr ⟨_, _, _, rfl, rfl, rfl⟩) (HV.eqi rfl rfl) ?_
                                            refine AL.val rfl (.inl rfl) (HV.pickT rfl rfl) ?_
                                            refine AL.val rfl (.inl rfl) (HV.as rfl) ?_
                                            refine AL.nx ?_
                                            refine AW.ret ?_
                                            refine ret_and ?_
                                            refine post_one rfl rfl ?_ (.inr rfl)
                                            exact ⟨congrArg Value.bool (by first | (exact decide_eq_true (by omega)) | (rw [Bool.not_eq_true', decide_eq_false_iff_not]; omega)), X231⟩
                                          · -- false
                                            have c247_ : decide ((if ((dl p ca pts).length : Int) = 0 then (4 : Int) else 0) = 4) = false := decide_eq_false c247
                                            rw [c247_]
                                            refine AL.off rfl rfl (by decide) rfl ?_
                                            refine AL.off rfl rfl (by decide) rfl ?_
                                            refine AL.off rfl rfl (by decide) rfl ?_
                                            refine AL.val rfl (.inl rfl) (HV.pickF rfl rfl) ?_
                                            refine AL.val rfl (.inl rfl) (HV.as rfl) ?_
                                            refine AL.nx ?_
                                            refine AW.ret ?_
                                            refine ret_and ?_
                                            refine post_one rfl rfl ?_ (.inr rfl)
                                            exfalso; first | omega | exact c247 rfl | exact c247 hVs | exact c247 hVt | exact c247 hvS
                                        · -- false
                                          have c246_ : decide ((0 : Int) = 0) = false := decide_eq_false c246
                                          rw [c246_]
                                          refine AL.off rfl rfl (by decide) rfl ?_
                                          refine AL.off rfl rfl (by decide) rfl ?_
                                          refine AL.val rfl (.inl rfl) (HV.pickF rfl rfl) ?_
                                          refine AL.val rfl (.inl rfl) (HV.mv rfl) ?_
                                          refine AL.off rfl rfl (by decide) rfl ?_
                                          refine AL.off rfl rfl (by decide) rfl ?_
                                          refine AL.off rfl rfl (by decide) rfl ?_
                                          refine AL.val rfl (.inl rfl) (HV.pickF rfl rfl) ?_
                                          refine AL.val rfl (.inl rfl) (HV.as rfl) ?_
                                          refine AL.nx ?_
                                          refine AW.ret ?_
                                          refine ret_and ?_
                                          refine post_one rfl rfl ?_ (.inr rfl)
                                          exfalso; first | omega | exact c246 rfl | exact c246 hVs | exact c246 hVt | exact c246 hvS
                                      · -- else
                                        refine AW.skip ?_
                                        refine nrm_and ?_
                                        refine AW.rs ?_
                                        refine AL.val rfl (.inl rfl) (HV.mv rfl) ?_
                                        refine AL.val rfl (.inl rfl) (HV.mv rfl) ?_
                                        refine AL.val rfl (.inl rfl) (HV.mv rfl) ?_
                                        refine AL.val rfl (.inl rfl) (HV.len Try.underlying24 rfl hr21.isSl) ?_
                                        refine AL.val rfl (.inl rfl) (HV.sub rfl rfl (by omega)) ?_
                                        refine AL.w rfl (.inl rfl) (WV.call fn64 rfl (liesOn_ok (hr185.ext X239) hvS ((ca.length : Int) - 1) (by omega))) ?_
                                        rintro _ H248 ⟨rfl, hx249⟩
                                        have X250 := Ext.trans X231 hx249
                                        have X251 := Ext.trans X232 hx249
                                        have X252 := Ext.trans X233 hx249
                                        have X253 := Ext.trans X234 hx249
                                        have X254 := Ext.trans X235 hx249
                                        have X255 := Ext.trans X236 hx249
                                        have X256 := Ext.trans X237 hx249
                                        have X257 := Ext.trans X238 hx249
                                        have X258 := Ext.trans X239 hx249
                                        have X259 := Ext.trans X240 hx249
                                        refine AL.val rfl (.inl rfl) (HV.mv rfl) ?_
                                        refine AL.val rfl (.inl rfl) (HV.ex rfl rfl) ?_
                                        refine AL.val rfl (.inl rfl) (HV.ex rfl rfl) ?_
                                        refine AL.val rfl (.inl rfl) (HV.as rfl) ?_
                                        refine AL.val rfl (.inl rfl) (HV.as rfl) ?_
                                        refine AL.nx ?_
                                        refine AW.seq ?_
                                        refine AW.rs ?_
                                        refine AL.val rfl (.inl rfl) (HV.mv rfl) ?_
                                        refine AL.val rfl (.inl rfl) (HV.nei rfl rfl) ?_
                                        refine AL.val rfl (.inl rfl) (HV.mv rfl) ?_
                                        by_cases c260 : (0 : Int) ≠ 0
                                        · -- true
                                          have c260_ : decide ((0 : Int) ≠ 0) = true := decide_eq_true c260
                                          rw [c260_]
                                          refine AL.off rfl rfl (by decide) rfl ?_
                                          refine AL.off rfl rfl (by decide) rfl ?_
                                          refine AL.val rfl (.inl rfl) (HV.pickT rfl rfl) ?_
                                          refine AL.val rfl (.inl rfl) (HV.mv rfl) ?_
                                          refine AL.off rfl rfl (by decide) rfl ?_
                                          refine AL.off rfl rfl (by decide) rfl ?_
                                          refine AL.val rfl (.inl rfl) (HV.pickT rfl rfl) ?_
                                          refine AL.val rfl (.inl rfl) (HV.mv rfl) ?_
                                          refine AL.off rfl rfl (by decide) rfl ?_
                                          refine AL.off rfl rfl (by decide) rfl ?_
                                          refine AL.off rfl rfl (by decide) rfl ?_
                                          refine AL.off rfl rfl (by decide) rfl ?_
                                          refine AL.val rfl (.inl rfl) (HV.pickT rfl rfl) ?_
                                          refine AL.val rfl (.inl rfl) (HV.mv rfl) ?_
                                          refine AL.off rfl rfl (by decide) rfl ?_
                                          refine AL.off rfl rfl (by decide) rfl ?_
                                          refine AL.off rfl rfl (by decide) rfl ?_
                                          refine AL.val rfl (.inl rfl) (HV.pickT rfl rfl) ?_
                                          refine AL.val rfl (.inl rfl) (HV.mv rfl) ?_
                                          refine AL.off rfl rfl (by decide) rfl ?_
                                          refine AL.off rfl rfl (by decide) rfl ?_
                                          refine AL.val rfl (.inl rfl) (HV.pickT rfl rfl) ?_
                                          refine AL.nx ?_
                                          refine AW.cond rfl (fun _ => ?_) (fun h => by cases h)
                                          refine AW.rs ?_
                                          refine AL.val rfl (.inl rfl) (HV.as rfl) ?_
                                          refine AL.nx ?_
                                          refine AW.ret ?_
                                          refine ret_and ?_
                                          refine post_one rfl rfl ?_ (.inr rfl)
                                          exfalso; first | omega | exact c260 rfl | exact c260 hVs | exact c260 hVt | exact c260 hvS
                                        · -- false
                                          have c260_ : decide ((0 : Int) ≠ 0) = false := decide_eq_false c260
                                          rw [c260_]
                                          refine AL.val rfl (.inr ⟨_, _, _, rfl, rfl, rfl⟩) (HV.mv rfl) ?_
                                          refine AL.val rfl (.inr ⟨_, _, _, rfl, rfl, rfl⟩) (HV.nei rfl rfl) ?_
                                          refine AL.val rfl (.inl rfl) (HV.pickF rfl rfl) ?_
                                          refine AL.val rfl (.inl rfl) (HV.mv rfl) ?_
                                          by_cases c262 : (if ((dl p ca pts).length : Int) = 0 then (4 : Int) else 0) ≠ 0
                                          · -- true
                                            have c262_ : decide ((if ((dl p ca pts).length : Int) = 0 then (4 : Int) else 0) ≠ 0) = true := decide_eq_true c262
                                            rw [c262_]
                                            refine AL.off rfl rfl (by decide) rfl ?_
                                            refine AL.off rfl rfl (by decide) rfl ?_
                                            refine AL.val rfl (.inl rfl) (HV.pickT rfl rfl) ?_
                                            refine AL.val rfl (.inl rfl) (HV.mv rfl) ?_
                                            refine AL.off rfl rfl (by decide) rfl ?_
                                            refine AL.off rfl rfl (by decide) rfl ?_
                                            refine AL.off rfl rfl (by decide) rfl ?_
                                            refine AL.off rfl rfl (by decide) rfl ?_
                                            refine AL.val rfl (.inl rfl) (HV.pickT rfl rfl) ?_
                                            refine AL.val rfl (.inl rfl) (HV.mv rfl) ?_
                                            refine AL.off rfl rfl (by decide) rfl ?_
                                            refine AL.off rfl rfl (by decide) rfl ?_
                                            refine AL.off rfl rfl (by decide) rfl ?_
                                            refine AL.val rfl (.inl rfl) (HV.pickT rfl rfl) ?_
                                            refine AL.val rfl (.inl rfl) (HV.mv rfl) ?_
                                            refine AL.off rfl rfl (by decide) rfl ?_
                                            refine AL.off rfl rfl (by decide) rfl ?_
                                            refine AL.val rfl (.inl rfl) (HV.pickT rfl rfl) ?_
                                            refine AL.nx ?_
                                            refine AW.cond rfl (fun _ => ?_) (fun h => by cases h)
                                            refine AW.rs ?_
                                            refine AL.val rfl (.inl rfl) (HV.as rfl) ?_
                                            refine AL.nx ?_
                                            refine AW.ret ?_
                                            refine ret_and ?_
                                            refine post_one rfl rfl ?_ (.inr rfl)
                                            exfalso; first | omega | exact c262 rfl | exact c262 hVs | exact c262 hVt | exact c262 hvS
                                          · -- false
                                            have c262_ : decide ((if ((dl p ca pts).length : Int) = 0 then (4 : Int) else 0) ≠ 0) = false := decide_eq_false c262
                                            rw [c262_]
                                            refine AL.val rfl (.inr ⟨_, _, _, rfl, rfl, rfl⟩) (HV.mv rfl) ?_
                                            refine AL.val rfl (.inr ⟨_, _, _, rfl, rfl, rfl⟩) (HV.nei rfl rfl) ?_
                                            refine AL.val rfl (.inl rfl) (HV.pickF rfl rfl) ?_
                                            refine AL.val rfl (.inl rfl) (HV.mv rfl) ?_
                                            by_cases c264 : (0 : Int) ≠ 0
                                            · -- true
                                              have c264_ : decide ((0 : Int) ≠ 0) = true := decide_eq_true c264
                                              rw [c264_]
                                              refine AL.off rfl rfl (by decide) rfl ?_
                                              refine AL.off rfl rfl (by decide) rfl ?_
                                              refine AL.off rfl rfl (by decide) rfl ?_
                                              refine AL.off rfl rfl (by decide) rfl ?_
                                              refine AL.val rfl (.inl rfl) (HV.pickT rfl rfl) ?_
                                              refine AL.val rfl (.inl rfl) (HV.mv rfl) ?_
                                              refine AL.off rfl rfl (by decide) rfl ?_
                                              refine AL.off rfl rfl (by decide) rfl ?_
                                              refine AL.off rfl rfl (by decide) rfl ?_
                                              refine AL.val rfl (.inl rfl) (HV.pickT rfl rfl) ?_
                                              refine AL.val rfl (.inl rfl) (HV.mv rfl) ?_
                                              refine AL.off rfl rfl (by decide) rfl ?_
                                              refine AL.off rfl rfl (by decide) rfl ?_
                                              refine AL.val rfl (.inl rfl) (HV.pickT rfl rfl) ?_
                                              refine AL.nx ?_
                                              refine AW.cond rfl (fun _ => ?_) (fun h => by cases h)
                                              refine AW.rs ?_
                                              refine AL.val rfl (.inl rfl) (HV.as rfl) ?_
                                              refine AL.nx ?_
                                              refine AW.ret ?_
                                              refine ret_and ?_
                                              refine post_one rfl rfl ?_ (.inr rfl)
                                              exfalso; first | omega | exact c264 rfl | exact c264 hVs | exact c264 hVt | exact c264 hvS
                                            · -- false
                                              have c264_ : decide ((0 : Int) ≠ 0) = false := decide_eq_false c264
                                              rw [c264_]
                                              refine AL.val rfl (.inr ⟨_, _, _, rfl, rfl, rfl⟩) (HV.mv rfl) ?_
                                              refine AL.val rfl (.inr ⟨_, _, _, rfl, rfl, rfl⟩) (HV.mv rfl) ?_
                                              refine AL.w rfl (.inr ⟨_, _, _, rfl, rfl, rfl⟩) (WV.call fn49 rfl (f6ints_ok (hr218.ext X259) (hr21.ext X251))) ?_
                                              rintro _ H266 ⟨rfl, hx267⟩
                                              have X268 := Ext.trans X250 hx267
                                              have X269 := Ext.trans X251 hx267
                                              have X270 := Ext.trans X252 hx267
                                              have X271 := Ext.trans X253 hx267
                                              have X272 := Ext.trans X254 hx267
                                              have X273 := Ext.trans X255 hx267
                                              have X274 := Ext.trans X256 hx267
                                              have X275 := Ext.trans X257 hx267
                                              have X276 := Ext.trans X258 hx267
                                              have X277 := Ext.trans X259 hx267
                                              refine AL.val rfl (.inr ⟨_, _, _, rfl, rfl, rfl⟩) (HV.not rfl) ?_
                                              refine AL.val rfl (.inl rfl) (HV.pickF rfl rfl) ?_
                                              refine AL.val rfl (.inl rfl) (HV.mv rfl) ?_
                                              by_cases c278 : ca = ca
                                              · -- false
                                                have c278_ : (!decide (ca = ca)) = false := by rw [decide_eq_true c278]; rfl
                                                rw [c278_]
                                                refine AL.val rfl (.inr ⟨_, _, _, rfl, rfl, rfl⟩) (HV.mv rfl) ?_
                                                refine AL.val rfl (.inr ⟨_, _, _, rfl, rfl, rfl⟩) (HV.mv rfl) ?_
                                                refine AL.val rfl (.inr ⟨_, _, _, rfl, rfl, rfl⟩) (HV.nei rfl rfl) ?_
                                                refine AL.val rfl (.inl rfl) (HV.pickF rfl rfl) ?_
                                                refine AL.val rfl (.inl rfl) (HV.mv rfl) ?_
                                                by_cases c279 : (if ((dl p ca pts).length : Int) = 0 then (0 : Int) else opV p (dl p ca pts) x) ≠ (val p ca x)
                                                · -- true
                                                  have c279_ : decide ((if ((dl p ca pts).length : Int) = 0 then (0 : Int) else opV p (dl p ca pts) x) ≠ (val p ca x)) = true := decide_eq_true c279
                                                  rw [c279_]
                                                  refine AL.off rfl rfl (by decide) rfl ?_
                                                  refine AL.off rfl rfl (by decide) rfl ?_
                                                  refine AL.val rfl (.inl rfl) (HV.pickT rfl rfl) ?_
                                                  refine AL.nx ?_
                                                  refine AW.cond rfl (fun _ => ?_) (fun h => by cases h)
                                                  refine AW.rs ?_
                                                  refine AL.val rfl (.inl rfl) (HV.as rfl) ?_
                                                  refine AL.nx ?_
                                                  refine AW.ret ?_
                                                  refine ret_and ?_
                                                  refine post_one rfl rfl ?_ (.inr rfl)
                                                  exfalso; first | omega | exact c279 rfl | exact c279 hVs | exact c279 hVt | exact c279 hvS
                                                · -- false
                                                  have c279_ : decide ((if ((dl p ca pts).length : Int) = 0 then (0 : Int) else opV p (dl p ca pts) x) ≠ (val p ca x)) = false := decide_eq_false c279
                                                  rw [c279_]
                                                  refine AL.val rfl (.inr ⟨_, _, _, rfl, rfl, rfl⟩) (HV.mv rfl) ?_
                                                  refine AL.val rfl (.inr ⟨_, _, _, rfl, rfl, rfl⟩) (HV.not rfl) ?_
                                                  refine AL.val rfl (.inl rfl) (HV.pickF rfl rfl) ?_
                                                  refine AL.nx ?_
                                                  refine AW.ifn rfl (fun c281 => ?_) (fun c281 => ?_)
                                                  · -- then
                                                    refine AW.rs ?_
                                                    refine AL.val rfl (.inl rfl) (HV.as rfl) ?_
                                                    refine AL.nx ?_
                                                    refine AW.ret ?_
                                                    refine ret_and ?_
                                                    refine post_one rfl rfl ?_ (.inr rfl)
                                                    exfalso; first | omega | exact c281 rfl | exact c281 hVs | exact c281 hVt | exact c281 hvS
                                                  · -- else
                                                    refine AW.skip ?_
                                                    refine nrm_and ?_
                                                    refine AW.seq ?_
                                                    refine AW.rs ?_
                                                    refine AL.val rfl (.inl rfl) (HV.mv rfl) ?_
                                                    refine AL.val rfl (.inl rfl) (HV.len Try.underlying24 rfl hr21.isSl) ?_
                                                    refine AL.val rfl (.inl rfl) (HV.eqi rfl rfl) ?_
                                                    refine AL.nx ?_
                                                    refine AW.ifd rfl (fun c282 => ?_) (fun c282 => ?_)
                                                    · -- then
                                                      refine AW.rs ?_
                                                      refine AL.val rfl (.inl rfl) (HV.as rfl) ?_
                                                      refine AL.nx ?_
                                                      refine AW.ret ?_
                                                      refine ret_and ?_
                                                      refine post_one rfl rfl ?_ (.inr rfl)
                                                      exact ⟨rfl, X268⟩
                                                    · -- else
                                                      refine AW.skip ?_
                                                      refine nrm_and ?_
                                                      refine AW.rs ?_
                                                      refine AL.val rfl (.inl rfl) (HV.mv rfl) ?_
                                                      refine AL.val rfl (.inl rfl) (HV.mv rfl) ?_
                                                      refine AL.val rfl (.inl rfl) (HV.mv rfl) ?_
                                                      refine AL.val rfl (.inl rfl) (HV.len Try.underlying24 rfl hr21.isSl) ?_
                                                      refine AL.val rfl (.inl rfl) (HV.sub rfl rfl (by omega)) ?_
                                                      refine AL.w rfl (.inl rfl) (WV.call fn64 rfl (liesOn_ok (hr185.ext X276) hvS ((ca.length : Int) - 2) (by omega))) ?_
                                                      rintro _ H283 ⟨rfl, hx284⟩
                                                      have X285 := Ext.trans X268 hx284
                                                      have X286 := Ext.trans X269 hx284
                                                      have X287 := Ext.trans X270 hx284
                                                      have X288 := Ext.trans X271 hx284
                                                      have X289 := Ext.trans X272 hx284
                                                      have X290 := Ext.trans X273 hx284
                                                      have X291 := Ext.trans X274 hx284
                                                      have X292 := Ext.trans X275 hx284
                                                      have X293 := Ext.trans X276 hx284
                                                      have X294 := Ext.trans X277 hx284
                                                      refine AL.val rfl (.inl rfl) (HV.mv rfl) ?_
                                                      refine AL.val rfl (.inl rfl) (HV.ex rfl rfl) ?_
                                                      refine AL.val rfl (.inl rfl) (HV.ex rfl rfl) ?_
                                                      refine AL.val rfl (.inl rfl) (HV.as rfl) ?_
                                                      refine AL.val rfl (.inl rfl) (HV.as rfl) ?_
                                                      refine AL.nx ?_
                                                      refine AW.rs ?_
                                                      refine AL.val rfl (.inl rfl) (HV.mv rfl) ?_
                                                      refine AL.val rfl (.inl rfl) (HV.eqi rfl rfl) ?_
                                                      refine AL.val rfl (.inl rfl) (HV.mv rfl) ?_
                                                      by_cases c295 : (0 : Int) = 0
                                                      · -- true
                                                        have c295_ : decide ((0 : Int) = 0) = true := decide_eq_true c295
                                                        rw [c295_]
                                                        refine AL.val rfl (.inr ⟨_, _, _, rfl, rfl, rfl⟩) (HV.mv rfl) ?_
                                                        refine AL.val rfl (.inr ⟨_, _, _, rfl, rfl, rfl⟩) (HV.not rfl) ?_
                                                        refine AL.val rfl (.inl rfl) (HV.pickT rfl rfl) ?_
                                                        refine AL.val rfl (.inl rfl) (HV.as rfl) ?_
                                                        refine AL.nx ?_
                                                        refine AW.ret ?_
                                                        refine post_one rfl rfl ?_ (.inr rfl)
                                                        exact ⟨congrArg Value.bool (by first | (exact decide_eq_true (by omega)) | (rw [Bool.not_eq_true', decide_eq_false_iff_not]; omega)), X285⟩
                                                      · -- false
                                                        have c295_ : decide ((0 : Int) = 0) = false := decide_eq_false c295
                                                        rw [c295_]
                                                        refine AL.off rfl rfl (by decide) rfl ?_
                                                        refine AL.off rfl rfl (by decide) rfl ?_
                                                        refine AL.val rfl (.inl rfl) (HV.pickF rfl rfl) ?_
                                                        refine AL.val rfl (.inl rfl) (HV.as rfl) ?_
                                                        refine AL.nx ?_
                                                        refine AW.ret ?_
                                                        refine post_one rfl rfl ?_ (.inr rfl)
                                                        exfalso; first | omega | exact c295 rfl | exact c295 hVs | exact c295 hVt | exact c295 hvS
                                              · -- true
                                                have c278_ : (!decide (ca = ca)) = true := by rw [decide_eq_false c278]; rfl
                                                rw [c278_]
                                                refine AL.off rfl rfl (by decide) rfl ?_
                                                refine AL.off rfl rfl (by decide) rfl ?_
                                                refine AL.off rfl rfl (by decide) rfl ?_
                                                refine AL.val rfl (.inl rfl) (HV.pickT rfl rfl) ?_
                                                refine AL.val rfl (.inl rfl) (HV.mv rfl) ?_
                                                refine AL.off rfl rfl (by decide) rfl ?_
                                                refine AL.off rfl rfl (by decide) rfl ?_
                                                refine AL.val rfl (.inl rfl) (HV.pickT rfl rfl) ?_
                                                refine AL.nx ?_
                                                refine AW.cond rfl (fun _ => ?_) (fun h => by cases h)
                                                refine AW.rs ?_
                                                refine AL.val rfl (.inl rfl) (HV.as rfl) ?_
                                                refine AL.nx ?_
                                                refine AW.ret ?_
                                                refine ret_and ?_
                                                refine post_one rfl rfl ?_ (.inr rfl)
                                                exfalso; first | omega | exact c278 rfl | exact c278 hVs | exact c278 hVt | exact c278 hvS
                                  · -- true
                                    have c213_ : (!decide (vS p (dl p ca pts))) = true := by rw [decide_eq_false c213]; rfl
                                    rw [c213_]
                                    refine AL.off rfl rfl (by decide) rfl ?_
                                    refine AL.off rfl rfl (by decide) rfl ?_
                                    refine AL.off rfl rfl (by decide) rfl ?_
                                    refine AL.off rfl rfl (by decide) rfl ?_
                                    refine AL.off rfl rfl (by decide) rfl ?_
                                    refine AL.val rfl (.inl rfl) (HV.pickT rfl rfl) ?_
                                    refine AL.nx ?_
                                    refine AW.cond rfl (fun _ => ?_) (fun h => by cases h)
                                    refine AW.rs ?_
                                    refine AL.val rfl (.inl rfl) (HV.as rfl) ?_
                                    refine AL.nx ?_
                                    refine AW.ret ?_
                                    refine ret_and ?_
                                    refine post_one rfl rfl ?_ (.inr rfl)
                                    exfalso; first | omega | exact c213 rfl | exact c213 hVs | exact c213 hVt | exact c213 hvS
                                · -- true
                                  have c201_ : (!decide ((dl p ca pts) = (dl p ca pts))) = true := by rw [decide_eq_false c201]; rfl
                                  rw [c201_]
                                  refine AL.off rfl rfl (by decide) rfl ?_
                                  refine AL.off rfl rfl (by decide) rfl ?_
                                  refine AL.off rfl rfl (by decide) rfl ?_
                                  refine AL.off rfl rfl (by decide) rfl ?_
                                  refine AL.val rfl (.inl rfl) (HV.pickT rfl rfl) ?_
                                  refine AL.val rfl (.inl rfl) (HV.mv rfl) ?_
                                  refine AL.off rfl rfl (by decide) rfl ?_
                                  refine AL.off rfl rfl (by decide) rfl ?_
                                  refine AL.off rfl rfl (by decide) rfl ?_
                                  refine AL.off rfl rfl (by decide) rfl ?_
                                  refine AL.off rfl rfl (by decide) rfl ?_
                                  refine AL.val rfl (.inl rfl) (HV.pickT rfl rfl) ?_
                                  refine AL.nx ?_
                                  refine AW.cond rfl (fun _ => ?_) (fun h => by cases h)
                                  refine AW.rs ?_
                                  refine AL.val rfl (.inl rfl) (HV.as rfl) ?_
                                  refine AL.nx ?_
                                  refine AW.ret ?_
                                  refine ret_and ?_
                                  refine post_one rfl rfl ?_ (.inr rfl)
                                  exfalso; first | omega | exact c201 rfl | exact c201 hVs | exact c201 hVt | exact c201 hvS
            · -- true
              have c93_ : (!decide (primeI p ∧ curveI p cs)) = true := by rw [decide_eq_false c93]; rfl
              rw [c93_]
              refine AL.off rfl rfl (by decide) rfl ?_
              refine AL.off rfl rfl (by decide) rfl ?_
              refine AL.off rfl rfl (by decide) rfl ?_
              refine AL.off rfl rfl (by decide) rfl ?_
              refine AL.val rfl (.inl rfl) (HV.pickT rfl rfl) ?_
              refine AL.nx ?_
              refine AW.cond rfl (fun _ => ?_) (fun h => by cases h)
              refine AW.rs ?_
              refine AL.val rfl (.inl rfl) (HV.as rfl) ?_
              refine AL.nx ?_
              refine AW.ret ?_
              refine ret_and ?_
              refine post_one rfl rfl ?_ (.inr rfl)
              exfalso; first | omega | exact c93 rfl | exact c93 hVs | exact c93 hVt | exact c93 hvS
          · -- true
            have c84_ : (!decide (cs = cs)) = true := by rw [decide_eq_false c84]; rfl
            rw [c84_]
            refine AL.off rfl rfl (by decide) rfl ?_
            refine AL.off rfl rfl (by decide) rfl ?_
            refine AL.off rfl rfl (by decide) rfl ?_
            refine AL.off rfl rfl (by decide) rfl ?_
            refine AL.val rfl (.inl rfl) (HV.pickT rfl rfl) ?_
            refine AL.val rfl (.inl rfl) (HV.mv rfl) ?_
            refine AL.off rfl rfl (by decide) rfl ?_
            refine AL.off rfl rfl (by decide) rfl ?_
            refine AL.off rfl rfl (by decide) rfl ?_
            refine AL.off rfl rfl (by decide) rfl ?_
            refine AL.val rfl (.inl rfl) (HV.pickT rfl rfl) ?_
            refine AL.nx ?_
            refine AW.cond rfl (fun _ => ?_) (fun h => by cases h)
            refine AW.rs ?_
            refine AL.val rfl (.inl rfl) (HV.as rfl) ?_
            refine AL.nx ?_
            refine AW.ret ?_
            refine ret_and ?_
            refine post_one rfl rfl ?_ (.inr rfl)
            exfalso; first | omega | exact c84 rfl | exact c84 hVs | exact c84 hVt | exact c84 hvS
end Go.Proofs.Ytonpikcbmgmchaa.VC
