/- Alk, Open, OpnB. -/
import Derived.ProofKit
import Derived.OpenShut
import Derived.ShutString
import Derived.ChangeOld
import Derived.Below
import Derived.Test.YtiolbdleihiocaaGreatPk15
set_option linter.unnecessarySimpa false
set_option linter.unusedVariables false
set_option linter.unusedSimpArgs false
section
namespace Go.Proofs.YtiolbdleihiocaaGreat
open Go Go.RowKit
set_option maxRecDepth 100000
theorem gsub_zero {z w : GQ} : gzero (gsub z w) = true ↔ z = w := by
  rw [gz_true]
  constructor
  · intro h
    have h1 := congrArg GQ.re h
    have h2 := congrArg GQ.im h
    simp only [gsub, g0] at h1 h2
    exact GQ.ext2 (by grind) (by grind)
  · rintro rfl
    refine GQ.ext2 ?_ ?_ <;> (simp only [gsub, g0]; grind)
theorem sameP_eq (p q : Pt) : sameP p q = ptB p q := by
  rw [Bool.eq_iff_iff, ptB_iff]
  cases p <;> cases q
  · exact ⟨fun _ => rfl, fun _ => rfl⟩
  · exact ⟨fun h => (by cases h), fun h => (by cases h)⟩
  · exact ⟨fun h => (by cases h), fun h => (by cases h)⟩
  · exact ⟨fun h => congrArg Pt.fin (gsub_zero.1 h), fun h => gsub_zero.2 (Pt.fin.inj h)⟩
theorem gmul0 (z : GQ) : gmul g0 z = g0 := by refine GQ.ext2 ?_ ?_ <;> (simp only [gmul, g0]; grind)
theorem turn_D (z : GQ) : msD (mid true) (.fin z) = ⟨1, 0⟩ := by
  show gadd (gmul g0 (gconj z)) (gint 1 0) = _
  rw [gmul0, gadd_0', gint10]
theorem turn_eq (p : Pt) : msend (mid true) p (gzero (msD (mid true) p)) = pconj p := by
  cases p with
  | inf => rfl
  | fin z =>
    rw [turn_D, gz_false.2 gq_one_ne]
    show Pt.fin (gdiv (msN (mid true) (.fin z)) (msD (mid true) (.fin z))) = _
    rw [turn_D, gq_div_one]
    show Pt.fin (gadd (gmul (gint 1 0) (gconj z)) g0) = _
    rw [gmul_1, gadd_0]
    rfl
theorem pconj_sz {k : Nat} {p : Pt} (h : PSz k p) : PSz k (pconj p) := by
  cases p
  · trivial
  · exact GSz.conj h
theorem bigL {k : Nat} {s : ByteArray} (h : big k s = false) : s.size ≤ k := by
  have := of_decide_eq_false h
  omega
theorem bigQ {k : Nat} {x y : R4} (h : smB k x y = true) : (x.s.size ≤ k ∧ x.t.size ≤ k) ∧ y.s.size ≤ k ∧ y.t.size ≤ k := by
  unfold smB at h
  simp only [Bool.not_eq_true', Bool.or_eq_false_iff] at h
  exact ⟨⟨bigL h.1, bigL h.2.1⟩, bigL h.2.2.1, bigL h.2.2.2⟩
theorem bigP {k : Nat} {p : Pt} (h : p.w.sm k = true) : PSz k p := by
  cases p
  · trivial
  · obtain ⟨⟨h1, h2⟩, h3, h4⟩ := bigQ h
    exact ⟨⟨h1, by rw [sz_nat]; exact h2⟩, ⟨h3, by rw [sz_nat]; exact h4⟩⟩
abbrev A8 (p q r s p' q' r' s' : Rw) : List SV := [.one (.a (p.C ++ q.C ++ r.C ++ s.C)), .one (.a (p'.C ++ q'.C ++ r'.C ++ s'.C))]
abbrev R3 (a b : Bool) (k : Int) : SV := .tup [.c (.b (.v (.bool a))), .c (.b (.v (.bool b))), svI k]
abbrev sm4 (p q r s : Rw) (b : Bool) : Prop := (p.sm 60 && (q.sm 60 && (r.sm 60 && s.sm 60))) = b
abbrev NsA : List (Nat × Nat) := [(4, 6)]
section
variable (p q r s p' q' r' s' : Rw)
noncomputable def alk1w (h : sm4 p q r s false) : Spec Tryz.prog :=
  Spec.auto Tryz.call9 (A8 p q r s p' q' r' s') [] (svB true) [] [(sR7Small 60 p q r s h).e, sKnown10.e] NsA 2000 Tryz.func9 hmA (by kernel_rfl) (fun β => by kernel_rfl)
noncomputable def alk2w (h : sm4 p q r s true) (h' : sm4 p' q' r' s' false) : Spec Tryz.prog :=
  Spec.auto Tryz.call9 (A8 p q r s p' q' r' s') [] (svB true) [] [(sR7Small 60 p q r s h).e, (sR7Small 60 p' q' r' s' h').e, sKnown10.e] NsA 2000 Tryz.func9 hmA (by kernel_rfl) (fun β => by kernel_rfl)
end
abbrev no4 (p q r s : Pp) : Prop := (p.B && (q.B && (r.B && s.B))) = false
noncomputable def x2a (p q r s p' q' r' s' : Pp) (h : no4 p q r s) (h' : no4 p' q' r' s') : Spec Tryz.prog :=
  (Y.sAlike2a p q r s p' q' r' s' h h').toX rfl rfl (A8 p.w q.w r.w s.w p'.w q'.w r'.w s'.w) (R3 false false 2) rfl rfl rfl
noncomputable def alk3w (p q r s p' q' r' s' : Pp) (hs : sm4 p.w q.w r.w s.w true) (hs' : sm4 p'.w q'.w r'.w s'.w true) (h : no4 p q r s) (h' : no4 p' q' r' s') : Spec Tryz.prog :=
  Spec.auto Tryz.call9 (A8 p.w q.w r.w s.w p'.w q'.w r'.w s'.w) [] (svB true) []
    [(sR7Small 60 p.w q.w r.w s.w hs).e, (sR7Small 60 p'.w q'.w r'.w s'.w hs').e, (x2a p q r s p' q' r' s' h h').e, (sWrong2 p q r s h).e, (sWrong2 p' q' r' s' h').e, (sNum 2).e, sKnown10.e] NsA 2000 Tryz.func9 hmA (by kernel_rfl) (fun β => by kernel_rfl)
section
variable (p q r s : Pp) {p' q' r' s' : Pt} (hp' : FitP p') (hq' : FitP q') (hr' : FitP r') (hs' : FitP s')
noncomputable def x2b (h : no4 p q r s) : Spec Tryz.prog :=
  (Y.sAlike2b p q r s h hp' hq' hr' hs').toX rfl rfl (A8 p.w q.w r.w s.w p'.w q'.w r'.w s'.w) (R3 false false 2) rfl rfl rfl
noncomputable def alk4w (zs : sm4 p.w q.w r.w s.w true) (zs' : sm4 p'.w q'.w r'.w s'.w true) (h : no4 p q r s) {t : Bool} (ht : decide (2 < mostI (ptB p' q') (ptB p' r') (ptB p' s') (ptB q' r') (ptB q' s') (ptB r' s')) = t) : Spec Tryz.prog :=
  Spec.auto Tryz.call9 (A8 p.w q.w r.w s.w p'.w q'.w r'.w s'.w) [] (svB true) []
    [(sR7Small 60 p.w q.w r.w s.w zs).e, (sR7Small 60 p'.w q'.w r'.w s'.w zs').e, (x2b p q r s hp' hq' hr' hs' h).e, (sWrong2 p q r s h).e, (sWrong rfl rfl rfl rfl rfl rfl hp' hq' hr' hs' ht).e, (sNum 2).e, sKnown10.e] NsA 2000 Tryz.func9 hmA (by kernel_rfl) (fun β => by cases t <;> kernel_rfl)
end
section
variable {p q r s : Pt} (p' q' r' s' : Pp) (hp : FitP p) (hq : FitP q) (hr : FitP r) (hs : FitP s)
noncomputable def x2c (h' : no4 p' q' r' s') : Spec Tryz.prog :=
  (Y.sAlike2c p' q' r' s' hp hq hr hs h').toX rfl rfl (A8 p.w q.w r.w s.w p'.w q'.w r'.w s'.w) (R3 false false 2) rfl rfl rfl
noncomputable def alk5w (zs : sm4 p.w q.w r.w s.w true) (zs' : sm4 p'.w q'.w r'.w s'.w true) (h' : no4 p' q' r' s') {t : Bool} (ht : decide (2 < mostI (ptB p q) (ptB p r) (ptB p s) (ptB q r) (ptB q s) (ptB r s)) = t) : Spec Tryz.prog :=
  Spec.auto Tryz.call9 (A8 p.w q.w r.w s.w p'.w q'.w r'.w s'.w) [] (svB true) []
    [(sR7Small 60 p.w q.w r.w s.w zs).e, (sR7Small 60 p'.w q'.w r'.w s'.w zs').e, (x2c p' q' r' s' hp hq hr hs h').e, (sWrong rfl rfl rfl rfl rfl rfl hp hq hr hs ht).e, (sWrong2 p' q' r' s' h').e, (sNum 2).e, sKnown10.e] NsA 2000 Tryz.func9 hmA (by kernel_rfl) (fun β => by cases t <;> kernel_rfl)
end
section
variable {p q r s p' q' r' s' : Pt} (hp : FitP p) (hq : FitP q) (hr : FitP r) (hs : FitP s) (hp' : FitP p') (hq' : FitP q') (hr' : FitP r') (hs' : FitP s')
variable {a b c d e f a' b' c' d' e' f' : Bool} (ha : ptB p q = a) (hb : ptB p r = b) (hc : ptB p s = c) (hd : ptB q r = d) (he : ptB q s = e) (hf : ptB r s = f) (ha' : ptB p' q' = a') (hb' : ptB p' r' = b') (hc' : ptB p' s' = c') (hd' : ptB q' r' = d') (he' : ptB q' s' = e') (hf' : ptB r' s' = f')
variable (zs : sm4 p.w q.w r.w s.w true) (zs' : sm4 p'.w q'.w r'.w s'.w true)
noncomputable def xTri1 (ht : decide (2 < mostI a b c d e f) = true) : Spec Tryz.prog :=
  (Y.sAlikeTri1 hp hq hr hs hp' hq' hr' hs' ha hb hc hd he hf ht).toX rfl rfl (A8 p.w q.w r.w s.w p'.w q'.w r'.w s'.w) (R3 false false 200) rfl rfl rfl
noncomputable def xTri2 (ht : decide (2 < mostI a b c d e f) = false) (ht' : decide (2 < mostI a' b' c' d' e' f') = true) : Spec Tryz.prog :=
  (Y.sAlikeTri2 hp hq hr hs hp' hq' hr' hs' ha hb hc hd he hf ha' hb' hc' hd' he' hf' ht ht').toX rfl rfl (A8 p.w q.w r.w s.w p'.w q'.w r'.w s'.w) (R3 false false 200) rfl rfl rfl
noncomputable def alkE (F : Spec Tryz.prog) {t t' : Bool} (ht : decide (2 < mostI a b c d e f) = t) (ht' : decide (2 < mostI a' b' c' d' e' f') = t') : List (Ev Tryz.prog) :=
  [(sR7Small 60 p.w q.w r.w s.w zs).e, (sR7Small 60 p'.w q'.w r'.w s'.w zs').e, F.e, (sWrong ha hb hc hd he hf hp hq hr hs ht).e, (sWrong ha' hb' hc' hd' he' hf' hp' hq' hr' hs' ht').e]
noncomputable def alk6w (ht : decide (2 < mostI a b c d e f) = true) {t' : Bool} (ht' : decide (2 < mostI a' b' c' d' e' f') = t') : Spec Tryz.prog :=
  Spec.auto Tryz.call9 (A8 p.w q.w r.w s.w p'.w q'.w r'.w s'.w) [] (svB true) []
    (alkE hp hq hr hs hp' hq' hr' hs' ha hb hc hd he hf ha' hb' hc' hd' he' hf' zs zs' (xTri1 hp hq hr hs hp' hq' hr' hs' ha hb hc hd he hf ht) ht ht' ++ [(sNum 200).e, sKnown10.e]) NsA 2000 Tryz.func9 hmA (by kernel_rfl) (fun β => by cases t' <;> kernel_rfl)
noncomputable def alk7w (ht : decide (2 < mostI a b c d e f) = false) (ht' : decide (2 < mostI a' b' c' d' e' f') = true) : Spec Tryz.prog :=
  Spec.auto Tryz.call9 (A8 p.w q.w r.w s.w p'.w q'.w r'.w s'.w) [] (svB true) []
    (alkE hp hq hr hs hp' hq' hr' hs' ha hb hc hd he hf ha' hb' hc' hd' he' hf' zs zs' (xTri2 hp hq hr hs hp' hq' hr' hs' ha hb hc hd he hf ha' hb' hc' hd' he' hf' ht ht') ht ht' ++ [(sNum 200).e, sKnown10.e]) NsA 2000 Tryz.func9 hmA (by kernel_rfl) (fun β => by kernel_rfl)
variable (ht : decide (2 < mostI a b c d e f) = false) (ht' : decide (2 < mostI a' b' c' d' e' f') = false)
theorem beq_lit (a : Bool) : Value.bool (a == a) = .bool true := by rw [beq_self_eq_true]
noncomputable def alkF (x y : Bool) : List (Ev Tryz.prog) := [.eqv 98 (.bool (x == x)) (.bool true) (beq_lit x), .eqv 102 (.bool (y == y)) (.bool true) (beq_lit y), (sNum 0).e, sKnown10.e]
noncomputable def alk8w0 (e0 : (a != a') = true) : Spec Tryz.prog :=
  Spec.auto Tryz.call9 (A8 p.w q.w r.w s.w p'.w q'.w r'.w s'.w) [] (svB true) []
    (alkE hp hq hr hs hp' hq' hr' hs' ha hb hc hd he hf ha' hb' hc' hd' he' hf' zs zs' ((Y.sAlikeNo0 hp hq hr hs hp' hq' hr' hs' ha hb hc hd he hf ha' hb' hc' hd' he' hf' ht ht' e0).toX rfl rfl (A8 p.w q.w r.w s.w p'.w q'.w r'.w s'.w) (R3 false false 0) rfl rfl rfl) ht ht' ++ [(sR10AlikeNo0 (p := p) (q := q) (r := r) (s := s) (p' := p') (q' := q') (r' := r') (s' := s') ha ha' e0).e, (sNum 0).e, sKnown10.e]) NsA 2000 Tryz.func9 hmA (by kernel_rfl) (fun β => by kernel_rfl)
noncomputable def alk8w1 (e0 : (a != a') = false) (e1 : (b != b') = true) : Spec Tryz.prog :=
  Spec.auto Tryz.call9 (A8 p.w q.w r.w s.w p'.w q'.w r'.w s'.w) [] (svB true) []
    (alkE hp hq hr hs hp' hq' hr' hs' ha hb hc hd he hf ha' hb' hc' hd' he' hf' zs zs' ((Y.sAlikeNo1 hp hq hr hs hp' hq' hr' hs' ha hb hc hd he hf ha' hb' hc' hd' he' hf' ht ht' e0 e1).toX rfl rfl (A8 p.w q.w r.w s.w p'.w q'.w r'.w s'.w) (R3 false false 0) rfl rfl rfl) ht ht' ++ [(sR10AlikeNo1 (p := p) (q := q) (r := r) (s := s) (p' := p') (q' := q') (r' := r') (s' := s') ha hb ha' hb' e0 e1).e, (sNum 0).e, sKnown10.e]) NsA 2000 Tryz.func9 hmA (by kernel_rfl) (fun β => by kernel_rfl)
noncomputable def alk8w2 (e0 : (a != a') = false) (e1 : (b != b') = false) (e2 : (d != d') = true) : Spec Tryz.prog :=
  Spec.auto Tryz.call9 (A8 p.w q.w r.w s.w p'.w q'.w r'.w s'.w) [] (svB true) []
    (alkE hp hq hr hs hp' hq' hr' hs' ha hb hc hd he hf ha' hb' hc' hd' he' hf' zs zs' ((Y.sAlikeNo2 hp hq hr hs hp' hq' hr' hs' ha hb hc hd he hf ha' hb' hc' hd' he' hf' ht ht' e0 e1 e2).toX rfl rfl (A8 p.w q.w r.w s.w p'.w q'.w r'.w s'.w) (R3 false false 0) rfl rfl rfl) ht ht' ++ [(sR10AlikeNo2 (p := p) (q := q) (r := r) (s := s) (p' := p') (q' := q') (r' := r') (s' := s') ha hb hd ha' hb' hd' e0 e1 e2).e, (sNum 0).e, sKnown10.e]) NsA 2000 Tryz.func9 hmA (by kernel_rfl) (fun β => by kernel_rfl)
noncomputable def alk8w3 (e0 : (a != a') = false) (e1 : (b != b') = false) (e2 : (d != d') = false) (e3 : (c != c') = true) : Spec Tryz.prog :=
  Spec.auto Tryz.call9 (A8 p.w q.w r.w s.w p'.w q'.w r'.w s'.w) [] (svB true) []
    (alkE hp hq hr hs hp' hq' hr' hs' ha hb hc hd he hf ha' hb' hc' hd' he' hf' zs zs' ((Y.sAlikeNo3 hp hq hr hs hp' hq' hr' hs' ha hb hc hd he hf ha' hb' hc' hd' he' hf' ht ht' e0 e1 e2 e3).toX rfl rfl (A8 p.w q.w r.w s.w p'.w q'.w r'.w s'.w) (R3 false false 0) rfl rfl rfl) ht ht' ++ [(sR10AlikeNo3 (p := p) (q := q) (r := r) (s := s) (p' := p') (q' := q') (r' := r') (s' := s') ha hb hc hd ha' hb' hc' hd' e0 e1 e2 e3).e, (sNum 0).e, sKnown10.e]) NsA 2000 Tryz.func9 hmA (by kernel_rfl) (fun β => by kernel_rfl)
noncomputable def alk8w4 (e0 : (a != a') = false) (e1 : (b != b') = false) (e2 : (d != d') = false) (e3 : (c != c') = false) (e4 : (e != e') = true) : Spec Tryz.prog :=
  Spec.auto Tryz.call9 (A8 p.w q.w r.w s.w p'.w q'.w r'.w s'.w) [] (svB true) []
    (alkE hp hq hr hs hp' hq' hr' hs' ha hb hc hd he hf ha' hb' hc' hd' he' hf' zs zs' ((Y.sAlikeNo4 hp hq hr hs hp' hq' hr' hs' ha hb hc hd he hf ha' hb' hc' hd' he' hf' ht ht' e0 e1 e2 e3 e4).toX rfl rfl (A8 p.w q.w r.w s.w p'.w q'.w r'.w s'.w) (R3 false false 0) rfl rfl rfl) ht ht' ++ [(sR10AlikeNo4 (p := p) (q := q) (r := r) (s := s) (p' := p') (q' := q') (r' := r') (s' := s') ha hb hc hd he ha' hb' hc' hd' he' e0 e1 e2 e3 e4).e, (sNum 0).e, sKnown10.e]) NsA 2000 Tryz.func9 hmA (by kernel_rfl) (fun β => by kernel_rfl)
noncomputable def alk8w5 (e0 : (a != a') = false) (e1 : (b != b') = false) (e2 : (d != d') = false) (e3 : (c != c') = false) (e4 : (e != e') = false) (e5 : (f != f') = true) : Spec Tryz.prog :=
  Spec.auto Tryz.call9 (A8 p.w q.w r.w s.w p'.w q'.w r'.w s'.w) [] (svB true) []
    (alkE hp hq hr hs hp' hq' hr' hs' ha hb hc hd he hf ha' hb' hc' hd' he' hf' zs zs' ((Y.sAlikeNo5 hp hq hr hs hp' hq' hr' hs' ha hb hc hd he hf ha' hb' hc' hd' he' hf' ht ht' e0 e1 e2 e3 e4 e5).toX rfl rfl (A8 p.w q.w r.w s.w p'.w q'.w r'.w s'.w) (R3 false false 0) rfl rfl rfl) ht ht' ++ [(sR10AlikeNo5 (p := p) (q := q) (r := r) (s := s) (p' := p') (q' := q') (r' := r') (s' := s') ha hb hc hd he hf ha' hb' hc' hd' he' hf' e0 e1 e2 e3 e4 e5).e, (sNum 0).e, sKnown10.e]) NsA 2000 Tryz.func9 hmA (by kernel_rfl) (fun β => by kernel_rfl)
theorem rat_le (hp : FitP p) (hq : FitP q) (hr : FitP r) (hs : FitP s) : PSz Y.KE (prat p q r s (gzero (ratY p q r s))) := (prat_sz hp hq hr hs rfl).mono (by decide)
noncomputable def xYes (e0 : (a != a') = false) (e1 : (b != b') = false) (e2 : (d != d') = false) (e3 : (c != c') = false) (e4 : (e != e') = false) (e5 : (f != f') = false) : Spec Tryz.prog :=
  (Y.sAlikeYes hp hq hr hs hp' hq' hr' hs' ha hb hc hd he hf ha' hb' hc' hd' he' hf' ht ht' e0 e1 e2 e3 e4 e5 (g := gzero (ratY p q r s)) (g' := gzero (ratY p' q' r' s')) rfl rfl (k := gzero (msD (mid true) (prat p q r s (gzero (ratY p q r s))))) rfl (rat_le hp hq hr hs) (rat_le hp' hq' hr' hs') (by rw [turn_eq]; exact pconj_sz (rat_le hp hq hr hs))).toX rfl rfl
    (A8 p.w q.w r.w s.w p'.w q'.w r'.w s'.w) (R3 (ptB (prat p q r s (gzero (ratY p q r s))) (prat p' q' r' s' (gzero (ratY p' q' r' s')))) (ptB (pconj (prat p q r s (gzero (ratY p q r s)))) (prat p' q' r' s' (gzero (ratY p' q' r' s')))) 0) rfl (by
      show Y.res3 (ptB _ _) (ptB _ _) 0 = Y.res3 (sameP _ _) (sameP (msend (mid true) (prat p q r s (gzero (ratY p q r s))) (gzero (msD (mid true) (prat p q r s (gzero (ratY p q r s)))))) _) 0
      rw [sameP_eq, sameP_eq, turn_eq]) rfl
noncomputable def alk9w (e0 : (a != a') = false) (e1 : (b != b') = false) (e2 : (d != d') = false) (e3 : (c != c') = false) (e4 : (e != e') = false) (e5 : (f != f') = false) (zp : PSz KQ p) (zq : PSz KQ q) (zr : PSz KQ r) (zs1 : PSz KQ s) (zp' : PSz KQ p') (zq' : PSz KQ q') (zr' : PSz KQ r') (zs1' : PSz KQ s') : Spec Tryz.prog :=
  Spec.auto Tryz.call9 (A8 p.w q.w r.w s.w p'.w q'.w r'.w s'.w) [] (svB true) []
    (alkE hp hq hr hs hp' hq' hr' hs' ha hb hc hd he hf ha' hb' hc' hd' he' hf' zs zs' (xYes hp hq hr hs hp' hq' hr' hs' ha hb hc hd he hf ha' hb' hc' hd' he' hf' ht ht' e0 e1 e2 e3 e4 e5) ht ht' ++ [(sR10AlikeYes ha hb hc hd he hf ha' hb' hc' hd' he' hf' e0 e1 e2 e3 e4 e5 zp zq zr zs1 zp' zq' zr' zs1' (g := gzero (ratY p q r s)) (g' := gzero (ratY p' q' r' s')) rfl rfl).e] ++
      alkF (ptB (prat p q r s (gzero (ratY p q r s))) (prat p' q' r' s' (gzero (ratY p' q' r' s')))) (ptB (pconj (prat p q r s (gzero (ratY p q r s)))) (prat p' q' r' s' (gzero (ratY p' q' r' s'))))) NsA 2000 Tryz.func9 hmA (by kernel_rfl) (fun β => by kernel_rfl)
end
def vRx (r : Rw) : List Value := [.bool r.i, .bool r.x.b, .string r.x.s, .bool r.x.c, .string r.x.t, .bool r.y.b, .string r.y.s, .bool r.y.c, .string r.y.t]
theorem spec_ok1 {P : Program} (S : Spec P) (ho : S.obs = []) (hr : S.res = svB true) (w : World) : Calls P S.f (S.args.map (SV.den idE)).toArray w fun e w' => e = .returned (.bool true) ∧ Below w.heap.size w w' := by
  refine (S.ok idE w (by rw [ho]; intro k t h; simp at h)).mono ?_
  rintro e w' ⟨xs, _, _, rfl, _, hb⟩
  exact ⟨by rw [hr]; rfl, hb⟩
theorem good4 {p q r s : Pp} (h : (p.B && (q.B && (r.B && s.B))) = true) : ∃ a b c d : Pt, ∃ (ha : FitP a) (hb : FitP b) (hc : FitP c) (hd : FitP d), p = ppt a ha ∧ q = ppt b hb ∧ r = ppt c hc ∧ s = ppt d hd := by
  simp only [Bool.and_eq_true] at h
  obtain ⟨a, ha, e1⟩ := Pp.good h.1
  obtain ⟨b, hb, e2⟩ := Pp.good h.2.1
  obtain ⟨c, hc, e3⟩ := Pp.good h.2.2.1
  obtain ⟨d, hd, e4⟩ := Pp.good h.2.2.2
  exact ⟨a, b, c, d, ha, hb, hc, hd, e1, e2, e3, e4⟩
theorem sm4_sz {p q r s : Pt} (h : sm4 p.w q.w r.w s.w true) : PSz KQ p ∧ PSz KQ q ∧ PSz KQ r ∧ PSz KQ s := by
  unfold sm4 at h
  simp only [Bool.and_eq_true] at h
  exact ⟨(bigP h.1).le, (bigP h.2.1).le, (bigP h.2.2.1).le, (bigP h.2.2.2).le⟩
theorem CrossAlike_walk (p q r s p' q' r' s' : Rw) (hp : p.ok) (hq : q.ok) (hr : r.ok) (hs : s.ok) (hp' : p'.ok) (hq' : q'.ok) (hr' : r'.ok) (hs' : s'.ok) (w : World) :
    Calls Tryz.prog 9 #[.agg (vRx p ++ vRx q ++ vRx r ++ vRx s).toArray, .agg (vRx p' ++ vRx q' ++ vRx r' ++ vRx s').toArray] w fun e w' => e = .returned (.bool true) ∧ Below w.heap.size w w' := by
  cases h1 : (p.sm 60 && (q.sm 60 && (r.sm 60 && s.sm 60))) with
  | false => exact spec_ok1 (alk1w p q r s p' q' r' s' h1) rfl rfl w
  | true => cases h2 : (p'.sm 60 && (q'.sm 60 && (r'.sm 60 && s'.sm 60))) with
  | false => exact spec_ok1 (alk2w p q r s p' q' r' s' h1 h2) rfl rfl w
  | true =>
    obtain ⟨p, rfl⟩ := pp_of p hp
    obtain ⟨q, rfl⟩ := pp_of q hq
    obtain ⟨r, rfl⟩ := pp_of r hr
    obtain ⟨s, rfl⟩ := pp_of s hs
    obtain ⟨p', rfl⟩ := pp_of p' hp'
    obtain ⟨q', rfl⟩ := pp_of q' hq'
    obtain ⟨r', rfl⟩ := pp_of r' hr'
    obtain ⟨s', rfl⟩ := pp_of s' hs'
    cases b1 : (p.B && (q.B && (r.B && s.B))) with
    | false => cases b2 : (p'.B && (q'.B && (r'.B && s'.B))) with
      | false => exact spec_ok1 (alk3w p q r s p' q' r' s' h1 h2 b1 b2) rfl rfl w
      | true =>
        obtain ⟨a', b', c', d', ha', hb', hc', hd', rfl, rfl, rfl, rfl⟩ := good4 b2
        rw [ppt_w, ppt_w, ppt_w, ppt_w] at h2 ⊢
        exact spec_ok1 (alk4w p q r s ha' hb' hc' hd' h1 h2 b1 rfl) rfl rfl w
    | true =>
      obtain ⟨a, b, c, d, ha, hb, hc, hd, rfl, rfl, rfl, rfl⟩ := good4 b1
      rw [ppt_w, ppt_w, ppt_w, ppt_w] at h1
      cases b2 : (p'.B && (q'.B && (r'.B && s'.B))) with
      | false =>
        rw [ppt_w, ppt_w, ppt_w, ppt_w]
        exact spec_ok1 (alk5w p' q' r' s' ha hb hc hd h1 h2 b2 rfl) rfl rfl w
      | true =>
        obtain ⟨a', b', c', d', ha', hb', hc', hd', rfl, rfl, rfl, rfl⟩ := good4 b2
        rw [ppt_w, ppt_w, ppt_w, ppt_w] at h2
        rw [ppt_w, ppt_w, ppt_w, ppt_w, ppt_w, ppt_w, ppt_w, ppt_w]
        cases t1 : decide (2 < mostI (ptB a b) (ptB a c) (ptB a d) (ptB b c) (ptB b d) (ptB c d)) with
        | true => exact spec_ok1 (alk6w ha hb hc hd ha' hb' hc' hd' rfl rfl rfl rfl rfl rfl rfl rfl rfl rfl rfl rfl h1 h2 t1 rfl) rfl rfl w
        | false => cases t2 : decide (2 < mostI (ptB a' b') (ptB a' c') (ptB a' d') (ptB b' c') (ptB b' d') (ptB c' d')) with
        | true => exact spec_ok1 (alk7w ha hb hc hd ha' hb' hc' hd' rfl rfl rfl rfl rfl rfl rfl rfl rfl rfl rfl rfl h1 h2 t1 t2) rfl rfl w
        | false =>
        cases e0 : (ptB a b != ptB a' b') with
        | true => exact spec_ok1 (alk8w0 ha hb hc hd ha' hb' hc' hd' rfl rfl rfl rfl rfl rfl rfl rfl rfl rfl rfl rfl h1 h2 t1 t2 e0) rfl rfl w
        | false =>
        cases e1 : (ptB a c != ptB a' c') with
        | true => exact spec_ok1 (alk8w1 ha hb hc hd ha' hb' hc' hd' rfl rfl rfl rfl rfl rfl rfl rfl rfl rfl rfl rfl h1 h2 t1 t2 e0 e1) rfl rfl w
        | false =>
        cases e2 : (ptB b c != ptB b' c') with
        | true => exact spec_ok1 (alk8w2 ha hb hc hd ha' hb' hc' hd' rfl rfl rfl rfl rfl rfl rfl rfl rfl rfl rfl rfl h1 h2 t1 t2 e0 e1 e2) rfl rfl w
        | false =>
        cases e3 : (ptB a d != ptB a' d') with
        | true => exact spec_ok1 (alk8w3 ha hb hc hd ha' hb' hc' hd' rfl rfl rfl rfl rfl rfl rfl rfl rfl rfl rfl rfl h1 h2 t1 t2 e0 e1 e2 e3) rfl rfl w
        | false =>
        cases e4 : (ptB b d != ptB b' d') with
        | true => exact spec_ok1 (alk8w4 ha hb hc hd ha' hb' hc' hd' rfl rfl rfl rfl rfl rfl rfl rfl rfl rfl rfl rfl h1 h2 t1 t2 e0 e1 e2 e3 e4) rfl rfl w
        | false =>
        cases e5 : (ptB c d != ptB c' d') with
        | true => exact spec_ok1 (alk8w5 ha hb hc hd ha' hb' hc' hd' rfl rfl rfl rfl rfl rfl rfl rfl rfl rfl rfl rfl h1 h2 t1 t2 e0 e1 e2 e3 e4 e5) rfl rfl w
        | false =>
        obtain ⟨z1, z2, z3, z4⟩ := sm4_sz h1
        obtain ⟨z5, z6, z7, z8⟩ := sm4_sz h2
        exact spec_ok1 (alk9w ha hb hc hd ha' hb' hc' hd' rfl rfl rfl rfl rfl rfl rfl rfl rfl rfl rfl rfl h1 h2 t1 t2 e0 e1 e2 e3 e4 e5 z1 z2 z3 z4 z5 z6 z7 z8) rfl rfl w
end Go.Proofs.YtiolbdleihiocaaGreat
end
section
namespace Go.Proofs.YtiolbdleihiocaaGreat
open Go.ChangeShapes Go.WideShapes Go.ChangeAt Go.RowKit
theorem cellsOf_bool : Tryz.prog.cellsOf 4 = 1 := by kernel_rfl
theorem cellsOf_string : Tryz.prog.cellsOf 9 = 1 := by kernel_rfl
theorem cellsOf_whole : Tryz.prog.cellsOf 23 = 2 := by kernel_rfl
theorem cellsOf_frac : Tryz.prog.cellsOf 25 = 4 := by kernel_rfl
section
variable {H : Type} {enc : TypeId × Value → H} {w : World} {base : Nat} {spare : Nat → Bool} {held : Bool}
set_option maxRecDepth 100000 in
theorem trod_whole {fuel : Nat} {cs : List Value} {x : DataW H × List MemPlace} (h : DataW.trod enc Tryz.prog w base spare held fuel 23 cs = some x) :
    ∃ (b : Bool) (s : ByteArray), cs = [.bool b, .string s] ∧ s.size ≤ maxLen := by
  obtain ⟨xs, n, rfl, _, hlen, hxl, hf⟩ := DataW.trod_struct Tryz.underlying23 h
  rw [cellsOf_whole] at hlen
  have hx0 : xs[0]? = some (xs[0]'(by rw [hxl]; decide)) := List.getElem?_eq_getElem _
  have hx1 : xs[1]? = some (xs[1]'(by rw [hxl]; decide)) := List.getElem?_eq_getElem _
  have h0 : DataW.trod enc Tryz.prog w base spare held n 4 ((cs.drop 0).take (Tryz.prog.cellsOf 4)) = some _ := (hf 0 _ rfl).trans hx0
  have h1 : DataW.trod enc Tryz.prog w base spare held n 9 ((cs.drop 1).take (Tryz.prog.cellsOf 9)) = some _ := (hf 1 _ rfl).trans hx1
  rw [cellsOf_bool] at h0
  rw [cellsOf_string] at h1
  match cs, hlen with
  | [a, b], _ =>
    obtain ⟨p, e0, _⟩ := DataW.trod_bool Tryz.underlying4 h0
    obtain ⟨s, e1, _, hs⟩ := DataW.trod_string Tryz.underlying9 h1
    cases e0
    cases e1
    exact ⟨p, s, rfl, hs⟩
set_option maxRecDepth 100000 in
theorem trod_frac {fuel : Nat} {cs : List Value} {x : DataW H × List MemPlace} (h : DataW.trod enc Tryz.prog w base spare held fuel 25 cs = some x) :
    ∃ (b c : Bool) (s t : ByteArray), cs = [.bool b, .string s, .bool c, .string t] ∧ s.size ≤ maxLen ∧ t.size ≤ maxLen := by
  obtain ⟨xs, n, rfl, _, hlen, hxl, hf⟩ := DataW.trod_struct Tryz.underlying25 h
  rw [cellsOf_frac] at hlen
  have hx0 : xs[0]? = some (xs[0]'(by rw [hxl]; decide)) := List.getElem?_eq_getElem _
  have hx1 : xs[1]? = some (xs[1]'(by rw [hxl]; decide)) := List.getElem?_eq_getElem _
  have h0 : DataW.trod enc Tryz.prog w base spare held n 23 ((cs.drop 0).take (Tryz.prog.cellsOf 23)) = some _ := (hf 0 _ rfl).trans hx0
  have h1 : DataW.trod enc Tryz.prog w base spare held n 23 ((cs.drop 2).take (Tryz.prog.cellsOf 23)) = some _ := (hf 1 _ rfl).trans hx1
  rw [cellsOf_whole] at h0 h1
  match cs, hlen with
  | [a, b, c, d], _ =>
    obtain ⟨p, s, e0, hs⟩ := trod_whole h0
    obtain ⟨q, t, e1, ht⟩ := trod_whole h1
    cases e0
    cases e1
    exact ⟨p, q, s, t, rfl, hs, ht⟩
end
end Go.Proofs.YtiolbdleihiocaaGreat
end
section
namespace Go.Proofs.YtiolbdleihiocaaGreat
open Go Go.ChangeShapes Go.WideShapes Go.ChangeAt Go.RowKit
theorem cellsOf_gauss : Tryz.prog.cellsOf 27 = 8 := by kernel_rfl
theorem cellsOf_point : Tryz.prog.cellsOf 29 = 9 := by kernel_rfl
theorem cellsOf_p4 : Tryz.prog.cellsOf 68 = 36 := by kernel_rfl
theorem okWide_array {P : Program} {w : World} {r : Reach} {base : Nat} {t e : TypeId} {v : Value} {n : Nat} (ht : P.underlying t = some (.array n e)) (h : Value.okWide P w r base t v) : ∃ cs, v = .agg cs ∧ cs.size = P.cellsOf t := by
  simp only [Value.okWide, ht] at h
  obtain ⟨cs, h1, h2, _⟩ := h
  exact ⟨cs, h1, h2⟩
theorem chunk {α : Type} (cs : List α) (a b : Nat) : cs.drop a = (cs.drop a).take b ++ cs.drop (a + b) := by
  rw [← List.drop_drop, List.take_append_drop]
def R4.ok (x : R4) : Prop := x.s.size ≤ maxLen ∧ x.t.size ≤ maxLen
section
variable {H : Type} {enc : TypeId × Value → H} {w : World} {base : Nat} {spare : Nat → Bool} {held : Bool}
theorem trod_r4 {fuel : Nat} {cs : List Value} {x : DataW H × List MemPlace} (h : DataW.trod enc Tryz.prog w base spare held fuel 25 cs = some x) : ∃ r : R4, cs = r.V ∧ r.ok := by
  obtain ⟨b, c, s, t, e, h1, h2⟩ := trod_frac h
  exact ⟨⟨b, s, c, t⟩, e, h1, h2⟩
set_option maxRecDepth 100000 in
theorem trod_gauss {fuel : Nat} {cs : List Value} {x : DataW H × List MemPlace} (h : DataW.trod enc Tryz.prog w base spare held fuel 27 cs = some x) : ∃ r s : R4, cs = r.V ++ s.V ∧ r.ok ∧ s.ok := by
  obtain ⟨xs, n, rfl, _, hlen, hxl, hf⟩ := DataW.trod_struct Tryz.underlying27 h
  rw [cellsOf_gauss] at hlen
  have hx0 : xs[0]? = some (xs[0]'(by rw [hxl]; decide)) := List.getElem?_eq_getElem _
  have hx1 : xs[1]? = some (xs[1]'(by rw [hxl]; decide)) := List.getElem?_eq_getElem _
  have h0 : DataW.trod enc Tryz.prog w base spare held n 25 ((cs.drop 0).take (Tryz.prog.cellsOf 25)) = some _ := (hf 0 _ rfl).trans hx0
  have h1 : DataW.trod enc Tryz.prog w base spare held n 25 ((cs.drop 4).take (Tryz.prog.cellsOf 25)) = some _ := (hf 1 _ rfl).trans hx1
  rw [cellsOf_frac] at h0 h1
  obtain ⟨r, e0, k0⟩ := trod_r4 h0
  obtain ⟨s, e1, k1⟩ := trod_r4 h1
  refine ⟨r, s, ?_, k0, k1⟩
  have := chunk cs 0 4
  rw [e0, List.drop_zero] at this
  rw [this, chunk cs (0 + 4) 4, e1, List.drop_of_length_le (by omega), List.append_nil]
set_option maxRecDepth 100000 in
theorem trod_point {fuel : Nat} {cs : List Value} {x : DataW H × List MemPlace} (h : DataW.trod enc Tryz.prog w base spare held fuel 29 cs = some x) : ∃ (i : Bool) (r s : R4), cs = .bool i :: (r.V ++ s.V) ∧ r.ok ∧ s.ok := by
  obtain ⟨xs, n, rfl, _, hlen, hxl, hf⟩ := DataW.trod_struct Tryz.underlying29 h
  rw [cellsOf_point] at hlen
  have hx0 : xs[0]? = some (xs[0]'(by rw [hxl]; decide)) := List.getElem?_eq_getElem _
  have hx1 : xs[1]? = some (xs[1]'(by rw [hxl]; decide)) := List.getElem?_eq_getElem _
  have h0 : DataW.trod enc Tryz.prog w base spare held n 4 ((cs.drop 0).take (Tryz.prog.cellsOf 4)) = some _ := (hf 0 _ rfl).trans hx0
  have h1 : DataW.trod enc Tryz.prog w base spare held n 27 ((cs.drop 1).take (Tryz.prog.cellsOf 27)) = some _ := (hf 1 _ rfl).trans hx1
  rw [cellsOf_bool] at h0
  rw [cellsOf_gauss] at h1
  obtain ⟨r, s, e1, k1⟩ := trod_gauss h1
  have e3 : cs.drop 1 = r.V ++ s.V := by
    have := chunk cs 1 8
    rw [e1] at this
    rw [this, List.drop_of_length_le (show cs.length ≤ 1 + 8 by omega), List.append_nil]
  have e2 : cs = cs.take 1 ++ (r.V ++ s.V) := by rw [← e3, List.take_append_drop]
  match hc : (cs.take 1), (show (cs.take 1).length = 1 by rw [List.length_take]; omega) with
  | [a], _ =>
    rw [List.drop_zero, hc] at h0
    obtain ⟨i, e0, _⟩ := DataW.trod_bool Tryz.underlying4 h0
    refine ⟨i, r, s, ?_, k1⟩
    rw [hc] at e2
    rw [e2]
    cases e0
    rfl
set_option maxRecDepth 100000 in
theorem open_p4 {r : Reach} {b0 : Nat} {v : Value} {d : DataW H} {p : List MemPlace} (hv : Value.okWide Tryz.prog w r b0 68 v) (h : DataW.Trod enc Tryz.prog w base spare held 68 v d p) :
    ∃ (i j k l : Bool) (a b c d e f g h : R4), v = .agg ((.bool i :: (a.V ++ b.V)) ++ (.bool j :: (c.V ++ d.V)) ++ (.bool k :: (e.V ++ f.V)) ++ (.bool l :: (g.V ++ h.V))).toArray ∧ (a.ok ∧ b.ok) ∧ (c.ok ∧ d.ok) ∧ (e.ok ∧ f.ok) ∧ g.ok ∧ h.ok := by
  obtain ⟨cs, rfl, hsz⟩ := okWide_array Tryz.underlying68 hv
  obtain ⟨fuel, hf⟩ := h
  obtain ⟨l⟩ := cs
  obtain ⟨xs, n, rfl, _, hlen, hxl, hg⟩ := DataW.trod_array Tryz.underlying68 hf
  simp only [Value.cells] at hlen hg
  rw [cellsOf_p4] at hlen
  rw [cellsOf_point] at hg
  have key : ∀ i, i < 4 → ∃ (j : Bool) (r s : R4), (l.drop (i * 9)).take 9 = .bool j :: (r.V ++ s.V) ∧ r.ok ∧ s.ok := fun i hi => by
    have hx : xs[i]? = some (xs[i]'(by rw [hxl]; exact hi)) := List.getElem?_eq_getElem _
    exact trod_point ((hg i hi).trans hx)
  obtain ⟨i0, a0, b0, e0, k0⟩ := key 0 (by decide)
  obtain ⟨i1, a1, b1, e1, k1⟩ := key 1 (by decide)
  obtain ⟨i2, a2, b2, e2, k2⟩ := key 2 (by decide)
  obtain ⟨i3, a3, b3, e3, k3⟩ := key 3 (by decide)
  refine ⟨i0, i1, i2, i3, a0, b0, a1, b1, a2, b2, a3, b3, ?_, k0, k1, k2, k3⟩
  have c0 := chunk l (0 * 9) 9
  have c1 := chunk l (1 * 9) 9
  have c2 := chunk l (2 * 9) 9
  have c3 := chunk l (3 * 9) 9
  rw [e3, List.drop_of_length_le (show l.length ≤ 3 * 9 + 9 by omega), List.append_nil] at c3
  rw [e2, show 2 * 9 + 9 = 3 * 9 by rfl, c3] at c2
  rw [e1, show 1 * 9 + 9 = 2 * 9 by rfl, c2] at c1
  rw [e0, show 0 * 9 + 9 = 1 * 9 by rfl, c1, show 0 * 9 = 0 by rfl, List.drop_zero] at c0
  rw [c0]
  simp only [List.append_assoc, List.cons_append]
end
end Go.Proofs.YtiolbdleihiocaaGreat
end
