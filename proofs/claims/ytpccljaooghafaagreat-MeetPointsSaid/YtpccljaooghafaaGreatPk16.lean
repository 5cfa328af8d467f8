/- MpW, Open, OpnB, OpnM. -/
import Derived.ProofKit
import Derived.OpenShut
import Derived.ShutString
import Derived.ChangeOld
import Derived.Below
import Derived.Test.YtpccljaooghafaaGreatPk15
set_option linter.unnecessarySimpa false
set_option linter.unusedVariables false
set_option linter.unusedSimpArgs false
section
namespace Go.Proofs.YtpccljaooghafaaGreat.Y
open Go Go.RowKit
set_option maxRecDepth 100000
theorem mpCmp_neg (x y:Rat):cmpQ x y = -cmpQ y x:=by
 unfold cmpQ
 by_cases h1:x<y
 · rw [if_pos h1,if_neg (by grind),if_pos h1]
 · rw [if_neg h1]
   by_cases h2:y<x
   · rw [if_pos h2,if_pos h2]; rfl
   · rw [if_neg h2,if_neg h2,if_neg h1]; rfl
theorem ordI_neg (p q:Pt):ordI p q = -ordI q p:=by
 cases p<;>cases q
 · rfl
 · rfl
 · rfl
 · rename_i z w
   show cmpG _ z w = -cmpG _ w z
   rw [mpCmp_neg w.re z.re]
   have e:(-cmpQ z.re w.re==0)=(cmpQ z.re w.re==0):=by
    rw [Bool.eq_iff_iff,beq_iff_eq,beq_iff_eq]; omega
   rw [e]
   unfold cmpG
   cases (!(cmpQ z.re w.re==0))
   · exact mpCmp_neg ..
   · exact mpCmp_neg ..
theorem ordI_ne {z w:GQ} (h:z≠w):ordI (.fin z) (.fin w)≠0:=by
 show cmpG _ z w≠0
 unfold cmpG
 cases e:(!(cmpQ z.re w.re==0)) with
 | true=>simpa using e
 | false =>
  have e1:cmpQ z.re w.re=0:=by simpa using e
  show cmpQ z.im w.im≠0
  intro e2
  exact h (GQ.ext2 (cmpQ_zero.1 e1) (cmpQ_zero.1 e2))
structure CutW (f g l L k:RQ):Prop where
 pNo:∀ {n d a b:Nat},RootB (cuX l k) n d a b→decide (Rat.divInt a b*Rat.divInt a b=cuX l k)=false→ValT ptsF f g (ptNil 230)
 pA:∀ {n d a b:Nat},RootB (cuX l k) n d a b→decide (Rat.divInt a b*Rat.divInt a b=cuX l k)=true→¬ FitG (ctP l k (Rat.divInt a b))→GSz KB (ctP l k (Rat.divInt a b))→ValT ptsF f g (ptNil 4)
 pB:∀ {n d a b:Nat},RootB (cuX l k) n d a b→decide (Rat.divInt a b*Rat.divInt a b=cuX l k)=true→FitP (.fin (ctP l k (Rat.divInt a b)))→¬ FitG (ctQ l k (Rat.divInt a b))→GSz KB (ctQ l k (Rat.divInt a b))→ValT ptsF f g (ptNil 4)
 pSw:∀ {n d a b:Nat},RootB (cuX l k) n d a b→decide (Rat.divInt a b*Rat.divInt a b=cuX l k)=true→FitP (.fin (ctP l k (Rat.divInt a b)))→FitP (.fin (ctQ l k (Rat.divInt a b)))→ptB (.fin (ctQ l k (Rat.divInt a b))) (.fin (ctP l k (Rat.divInt a b)))=false→decide (ordI (.fin (ctQ l k (Rat.divInt a b))) (.fin (ctP l k (Rat.divInt a b)))<0)=true→OwnT ptsF f g (pr2 (.fin (ctQ l k (Rat.divInt a b))) (.fin (ctP l k (Rat.divInt a b)))) ptR2
 pIn:∀ {n d a b:Nat},RootB (cuX l k) n d a b→decide (Rat.divInt a b*Rat.divInt a b=cuX l k)=true→FitP (.fin (ctP l k (Rat.divInt a b)))→FitP (.fin (ctQ l k (Rat.divInt a b)))→ptB (.fin (ctQ l k (Rat.divInt a b))) (.fin (ctP l k (Rat.divInt a b)))=false→decide (ordI (.fin (ctQ l k (Rat.divInt a b))) (.fin (ctP l k (Rat.divInt a b)))<0)=false→OwnT ptsF f g (pr2 (.fin (ctP l k (Rat.divInt a b))) (.fin (ctQ l k (Rat.divInt a b)))) ptR2
 rNo:0≤(xX L k).num→(¬ ∃ q:Rat,q*q=xX L k)→ValT refF f g rpNil
 rSw:0≤(xX L k).num→∀ {q:Rat},q*q=xX L k→0≤q→decide (0<ordI (.fin (gadd (xF L k) (xW L q))) (.fin (gsub (xF L k) (xW L q))))=true→OwnT refF f g (bxP (.fin (gsub (xF L k) (xW L q))) (.fin (gadd (xF L k) (xW L q)))) rpR2
 rIn:0≤(xX L k).num→∀ {q:Rat},q*q=xX L k→0≤q→decide (0<ordI (.fin (gadd (xF L k) (xW L q))) (.fin (gsub (xF L k) (xW L q))))=false→OwnT refF f g (bxP (.fin (gadd (xF L k) (xW L q))) (.fin (gsub (xF L k) (xW L q)))) rpR2
def CutE (f g:RQ):Prop:=(ValT ptsF f g (ptNil 230)∧ValT refF f g rpNil)∨∃ A B:Pt,OwnT refF f g (bxP A B) rpR2∧((FitP A∧FitP B∧OwnT ptsF f g (pr2 A B) ptR2)∨(¬ (FitP A∧FitP B)∧ValT ptsF f g (ptNil 4)))
theorem rb_szt {X:Rat} {n d a b:Nat} (h:RootB X n d a b) (hX:Sz 7173 X) (ht:Rat.divInt a b*Rat.divInt a b=X):Sz 7173 (Rat.divInt a b):=by
 obtain ⟨n1,n2⟩:=sq_num (Rat.divInt a b)
 rw [ht] at n1 n2
 have z1:(mag X.num.natAbs).size≤7173:=hX.1
 have z2:(mag (X.den:Int).natAbs).size≤7173:=hX.2
 rw [n1,Int.natAbs_mul] at z1
 rw [Int.natAbs_natCast,n2] at z2
 refine ⟨mag_mono (Nat.le_mul_self _) z1,?_⟩
 show (mag (((Rat.divInt a b).den:Int)).natAbs).size≤7173
 rw [Int.natAbs_natCast]
 exact mag_mono (Nat.le_mul_self _) z2
theorem cut_all {f g l k:RQ} {y:Rat} (ha:l.a=0) (h0:k.a≠0) (hn:cuN l≠0) (hX:0<cuX l k) (hy:y≠0) (sl:RSz KL l) (sk:RSz KK k) (W:CutW f g l (rnm l y) k):CutE f g:=by
 have sX:=dX_sz sl sk h0 hn
 obtain ⟨a,b,hR⟩:=rootB_of (Rat.num_nonneg.2 (by grind)) sX
 have eX:=rX_eq (k:=k) ha hn hy
 have hx0:0≤(xX (rnm l y) k).num:=by
  rw [eX]
  exact Rat.num_nonneg.2 (Rat.mul_nonneg (by grind) (sq_nonneg y))
 have hyi:=Rat.mul_inv_cancel y hy
 cases ht:decide (Rat.divInt a b*Rat.divInt a b=cuX l k) with
 | false =>
  refine .inl ⟨W.pNo hR ht,W.rNo hx0 ?_⟩
  rintro ⟨q,hq⟩
  refine root_no hR ht ⟨q*y⁻¹,?_⟩
  rw [eX] at hq
  generalize y⁻¹=i at *
  have:q*i*(q*i)=cuX l k*(y*i)*(y*i):=by grind
  rw [this,hyi]
  grind
 | true =>
  have htt:=of_decide_eq_true ht
  have st:=rb_szt hR sX htt
  have hz:=ct_sz (sl.mono (by decide)) (sk.mono (by decide)) h0 hn st (by decide)
  have ht0:Rat.divInt a b≠0:=by
   intro e
   rw [e,Rat.mul_zero] at htt
   rw [← htt] at hX
   exact absurd hX (by decide)
  obtain ⟨q,q0,q1,_⟩:=abs_sq (Rat.divInt a b*y)
  have hq:q*q=xX (rnm l y) k:=by
   rw [q1,eX,← htt]
   grind
  have hsc:=root_scale hy htt (by rw [← eX]; exact hq)
  have hpq:ctP l k (Rat.divInt a b)≠ctQ l k (Rat.divInt a b):=two_ne hn ht0
  have hne:ptB (.fin (ctQ l k (Rat.divInt a b))) (.fin (ctP l k (Rat.divInt a b)))=false:=by
   cases e:ptB (.fin (ctQ l k (Rat.divInt a b))) (.fin (ctP l k (Rat.divInt a b))) with
   | false=>rfl
   | true=>exact absurd (Pt.fin.inj (ptB_iff.1 e)).symm hpq
  have hon:=ordI_ne hpq
  have hox:=ordI_neg (.fin (ctP l k (Rat.divInt a b))) (.fin (ctQ l k (Rat.divInt a b)))
  have hsame:(gadd (cuF l k) (cuB l (q*y⁻¹))=ctP l k (Rat.divInt a b)∧gsub (cuF l k) (cuB l (q*y⁻¹))=ctQ l k (Rat.divInt a b))∨(gadd (cuF l k) (cuB l (q*y⁻¹))=ctQ l k (Rat.divInt a b)∧gsub (cuF l k) (cuB l (q*y⁻¹))=ctP l k (Rat.divInt a b)):=same_two (F:=cuF l k) (l:=l) hsc
  rw [← rW_eq l y q] at hsame
  have hF:=rF_eq (k:=k) ha hn hy
  have W1:=@W.pA _ _ _ _ hR ht
  have W2:=@W.pB _ _ _ _ hR ht
  have W3:=@W.pSw _ _ _ _ hR ht
  have W4:=@W.pIn _ _ _ _ hR ht
  have W5:=@W.rSw hx0 _ hq q0
  have W6:=@W.rIn hx0 _ hq q0
  rw [hF] at W5 W6
  generalize gadd (cuF l k) (xW (rnm l y) q)=P' at *
  generalize gsub (cuF l k) (xW (rnm l y) q)=Q' at *
  generalize hP:ctP l k (Rat.divInt a b)=P at *
  generalize hQ:ctQ l k (Rat.divInt a b)=Q at *
  have key:∀ A B:GQ,((A=P∧B=Q)∨(A=Q∧B=P))→OwnT refF f g (bxP (.fin A) (.fin B)) rpR2→(FitG P→FitG Q→OwnT ptsF f g (pr2 (.fin A) (.fin B)) ptR2)→CutE f g:=by
   intro A B hAB hr hp
   refine .inr ⟨.fin A,.fin B,hr,?_⟩
   by_cases f1:FitG P
   · by_cases f2:FitG Q
     · refine .inl ⟨?_,?_,hp f1 f2⟩
       · rcases hAB with ⟨rfl,rfl⟩ | ⟨rfl,rfl⟩<;>assumption
       · rcases hAB with ⟨rfl,rfl⟩ | ⟨rfl,rfl⟩<;>assumption
     · refine .inr ⟨?_,W2 f1 f2 hz.2⟩
       rintro ⟨k1,k2⟩
       rcases hAB with ⟨rfl,rfl⟩ | ⟨rfl,rfl⟩
       · exact f2 k2
       · exact f2 k1
   · refine .inr ⟨?_,W1 f1 hz.1⟩
     rintro ⟨k1,k2⟩
     rcases hAB with ⟨rfl,rfl⟩ | ⟨rfl,rfl⟩
     · exact f1 k1
     · exact f1 k2
  rcases hsame with ⟨hs1,hs2⟩ | ⟨hs1,hs2⟩
  · rw [hs1,hs2] at W5 W6
    cases ho:decide (ordI (.fin Q) (.fin P)<0) with
    | true=>exact key Q P (.inr ⟨rfl,rfl⟩) (W5 (decide_eq_true (by have:=of_decide_eq_true ho; omega))) (fun a1 a2=>W3 a1 a2 hne ho)
    | false=>exact key P Q (.inl ⟨rfl,rfl⟩) (W6 (decide_eq_false (by have:=of_decide_eq_false ho; omega))) (fun a1 a2=>W4 a1 a2 hne ho)
  · rw [hs1,hs2] at W5 W6
    cases ho:decide (ordI (.fin Q) (.fin P)<0) with
    | true=>exact key Q P (.inr ⟨rfl,rfl⟩) (W6 (decide_eq_false (by have:=of_decide_eq_true ho; omega))) (fun a1 a2=>W3 a1 a2 hne ho)
    | false=>exact key P Q (.inl ⟨rfl,rfl⟩) (W5 (decide_eq_true (by have:=of_decide_eq_false ho; omega))) (fun a1 a2=>W4 a1 a2 hne ho)
section
variable {f g:RQ} (hf:MayC f) (hg:MayC g) (sf:RSz 60 f) (sg:RSz 60 g) (hs:eqRone f g=false) (hc:cmpQ (fsq f g) one1 = -1)
include hf hg sf sg hs hc in
theorem cut_one (hA:axAt f g .one) (h0:g.a≠0) (hn:cuN f≠0):CutW f g f f g :=
 have hN:xN f≠0:=by
  have e:=rN_ne (l:=f) (y:=rby f) hn (rby_ne hf.pow)
  rwa [show rnm f (rby f)=f from hf.one] at e
 { pNo:=fun h ht=>(sPtNoOne hf hg hs hc hA (sf.mono (by decide)) (sg.mono (by decide)) h0 hn h ht).ok
   pA:=fun h ht hP hz=>(sPtBigAOne hf hg hs hc hA (sf.mono (by decide)) (sg.mono (by decide)) h0 hn h ht hP hz).ok
   pB:=fun h ht hP hQ hz=>(sPtBigBOne hf hg hs hc hA (sf.mono (by decide)) (sg.mono (by decide)) h0 hn h ht hP hQ hz).ok
   pSw:=fun h ht hP hQ hne hb=>(oPtOneSw hf hg hs hc hA (sf.mono (by decide)) (sg.mono (by decide)) h0 hn h ht hP hQ hne hb).ok
   pIn:=fun h ht hP hQ hne hb=>(oPtOneIn hf hg hs hc hA (sf.mono (by decide)) (sg.mono (by decide)) h0 hn h ht hP hQ hne hb).ok
   rNo:=fun hx0 hq=>(sRpNoOne hf hg hs hc hA (sf.mono (by decide)) (sg.mono (by decide)) h0 hN hx0 hq).ok
   rSw:=fun hx0 _ hq q0 hb=>(oRpOneSw hf hg hs hc hA (sf.mono (by decide)) (sg.mono (by decide)) h0 hN hx0 hq q0 hb).ok
   rIn:=fun hx0 _ hq q0 hb=>(oRpOneIn hf hg hs hc hA (sf.mono (by decide)) (sg.mono (by decide)) h0 hN hx0 hq q0 hb).ok }
include hf hg sf sg hs hc in
theorem cut_two (hA:axAt f g .two) (h0:f.a≠0) (hn:cuN g≠0):CutW f g g g f :=
 have hN:xN g≠0:=by
  have e:=rN_ne (l:=g) (y:=rby g) hn (rby_ne hg.pow)
  rwa [show rnm g (rby g)=g from hg.one] at e
 { pNo:=fun h ht=>(sPtNoTwo hf hg hs hc hA (sg.mono (by decide)) (sf.mono (by decide)) h0 hn h ht).ok
   pA:=fun h ht hP hz=>(sPtBigATwo hf hg hs hc hA (sg.mono (by decide)) (sf.mono (by decide)) h0 hn h ht hP hz).ok
   pB:=fun h ht hP hQ hz=>(sPtBigBTwo hf hg hs hc hA (sg.mono (by decide)) (sf.mono (by decide)) h0 hn h ht hP hQ hz).ok
   pSw:=fun h ht hP hQ hne hb=>(oPtTwoSw hf hg hs hc hA (sg.mono (by decide)) (sf.mono (by decide)) h0 hn h ht hP hQ hne hb).ok
   pIn:=fun h ht hP hQ hne hb=>(oPtTwoIn hf hg hs hc hA (sg.mono (by decide)) (sf.mono (by decide)) h0 hn h ht hP hQ hne hb).ok
   rNo:=fun hx0 hq=>(sRpNoTwo hf hg hs hc hA (sg.mono (by decide)) (sf.mono (by decide)) h0 hN hx0 hq).ok
   rSw:=fun hx0 _ hq q0 hb=>(oRpTwoSw hf hg hs hc hA (sg.mono (by decide)) (sf.mono (by decide)) h0 hN hx0 hq q0 hb).ok
   rIn:=fun hx0 _ hq q0 hb=>(oRpTwoIn hf hg hs hc hA (sg.mono (by decide)) (sf.mono (by decide)) h0 hN hx0 hq q0 hb).ok }
include sf sg in
theorem ax60:RSz 123 (axQ f g):=(pls_sz sf sg (k:=1) (l:=1) (Sz.small (by decide)) (Sz.small (by decide))).mono (by decide)
include hf hg sf sg hs hc in
theorem cut_none (hA:axAt f g .none) (hw:wtB (axQ f g)=false) (hw2:decide ((fpr (axQ f g) (axQ f g)).num.sign≤0)=false) (h0:f.a≠0) (hn:cuN (axQ f g)≠0):CutW f g (axQ f g) (rnm (axQ f g) (rby (axQ f g))) f :=
 have hy:rby (axQ f g)≠0:=rby_ne hw
 have hN:xN (rone (axQ f g))≠0:=rN_ne (l:=axQ f g) (y:=rby (axQ f g)) hn hy
 have sa:RSz 123 (axQ f g):=ax60 sf sg
 have hL:RSz 300 (rone (axQ f g)):=(rnm_sz sa (rby_sz sa _ _) hy).mono (by decide)
 { pNo:=fun h ht=>(sPtNoNone hf hg hs hc hA hw2 (sa.mono (by decide)) (sf.mono (by decide)) h0 hn h ht).ok
   pA:=fun h ht hP hz=>(sPtBigANone hf hg hs hc hA hw2 (sa.mono (by decide)) (sf.mono (by decide)) h0 hn h ht hP hz).ok
   pB:=fun h ht hP hQ hz=>(sPtBigBNone hf hg hs hc hA hw2 (sa.mono (by decide)) (sf.mono (by decide)) h0 hn h ht hP hQ hz).ok
   pSw:=fun h ht hP hQ hne hb=>(oPtNoneSw hf hg hs hc hA hw2 (sa.mono (by decide)) (sf.mono (by decide)) h0 hn h ht hP hQ hne hb).ok
   pIn:=fun h ht hP hQ hne hb=>(oPtNoneIn hf hg hs hc hA hw2 (sa.mono (by decide)) (sf.mono (by decide)) h0 hn h ht hP hQ hne hb).ok
   rNo:=fun hx0 hq=>(sRpNoNone hf hg hs hc hA hw hL (sf.mono (by decide)) h0 hN hx0 hq).ok
   rSw:=fun hx0 _ hq q0 hb=>(oRpNoneSw hf hg hs hc hA hw hL (sf.mono (by decide)) h0 hN hx0 hq q0 hb).ok
   rIn:=fun hx0 _ hq q0 hb=>(oRpNoneIn hf hg hs hc hA hw hL (sf.mono (by decide)) h0 hN hx0 hq q0 hb).ok }
theorem mpNum_pos {x:Rat}:0<x.num↔0<x:=by
 have h1:0≤x.num↔0≤x:=Rat.num_nonneg
 have h2:x.num=0↔x=0:=Rat.num_eq_zero
 constructor
 · intro h
   have h3:=h1.1 (by omega)
   have h4:x≠0:=fun e=>by have:=h2.2 e; omega
   grind
 · intro h
   have h3:=h1.2 (by grind)
   have h4:x.num≠0:=fun e=>by have:=h2.1 e; grind
   omega
theorem may_pos {f:RQ} (hf:MayC f):0<fpr f f:=by
 have h:=of_decide_eq_false hf.pow
 rw [← rpow_fpr] at h
 have h2:0<(fpr f f).num:=by
  rcases Int.lt_trichotomy (fpr f f).num 0 with e | e | e
  · rw [Int.sign_eq_neg_one_of_neg e] at h; omega
  · rw [e] at h; exact absurd (by decide) h
  · exact e
 exact mpNum_pos.1 h2
theorem may_a {f:RQ} (hf:MayC f) (h0:f.a≠0):f.a=1:=by
 have h:=congrArg RQ.a hf.one
 have e:rby f=f.a:=by
  unfold rby
  rw [decide_eq_false h0]
  rfl
 have h1:f.a*(rby f)⁻¹=f.a:=h
 rw [e,Rat.mul_inv_cancel _ h0] at h1
 exact h1.symm
include hf hg sf sg hs hc in
theorem cut_any:CutE f g:=by
 have pf:=may_pos hf
 have pg:=may_pos hg
 have hgp:=gram_pos pf pg hc
 obtain ⟨k,hA⟩:=axAt_all f g
 cases k with
 | both =>
  have a1:=of_decide_eq_true hA.1
  have a2:=of_decide_eq_true hA.2
  have hd:lnD f g≠0:=by
   intro e
   have h:=gram_lines a1 a2
   rw [e,Rat.mul_zero] at h
   grind
  have hr:=(oRpLines hf hg (sf.mono (by decide)) (sg.mono (by decide)) hs hc hA hd).ok
  refine .inr ⟨.fin (lnZ f g),.inf,?_,?_⟩
  · rw [lnZ_eq]; exact hr
  · by_cases hz:FitG (lnZ f g)
    · exact .inl ⟨hz,trivial,(oPtLn hf hg (sf.mono (by decide)) (sg.mono (by decide)) hs hc hA hd hz).ok⟩
    · exact .inr ⟨fun h=>hz h.1,(sPtLnNo hf hg (sf.mono (by decide)) (sg.mono (by decide)) hs hc hA hd hz).ok⟩
 | one =>
  have a1:=of_decide_eq_true hA.1
  have a2:=of_decide_eq_false hA.2
  obtain ⟨hn,hX⟩:=cross_line a1 a2 pf hgp
  refine cut_all (l:=f) (k:=g) (y:=rby f) a1 a2 hn hX (rby_ne hf.pow) (sf.mono (by decide)) (sg.mono (by decide)) ?_
  rw [show rnm f (rby f)=f from hf.one]
  exact cut_one hf hg sf sg hs hc hA a2 hn
 | two =>
  have a1:=of_decide_eq_false hA.1
  have a2:=of_decide_eq_true hA.2
  have hfg:fpr g f=fpr f g:=by unfold fpr; grind
  obtain ⟨hn,hX⟩:=cross_line (l:=g) (k:=f) a2 a1 pg (by rw [hfg,Rat.mul_comm (fpr g g)]; exact hgp)
  refine cut_all (l:=g) (k:=f) (y:=rby g) a2 a1 hn hX (rby_ne hg.pow) (sg.mono (by decide)) (sf.mono (by decide)) ?_
  rw [show rnm g (rby g)=g from hg.one]
  exact cut_two hf hg sf sg hs hc hA a1 hn
 | none =>
  have a1:=of_decide_eq_false hA.1
  have a2:=of_decide_eq_false hA.2
  have haa:f.a=g.a:=by rw [may_a hf a1,may_a hg a2]
  obtain ⟨hp,hn,hX⟩:=cross_two haa a1 hgp
  have hw2:decide ((fpr (axQ f g) (axQ f g)).num.sign≤0)=false:=by
   have h1:0<(fpr (axQ f g) (axQ f g)).num:=mpNum_pos.2 hp
   rw [Int.sign_eq_one_of_pos h1]
   rfl
  have hw:wtB (axQ f g)=false:=by
   have:=hw2
   rw [rpow_fpr] at this
   exact this
  exact cut_all (l:=axQ f g) (k:=f) (y:=rby (axQ f g)) (ax_a haa) a1 hn hX (rby_ne hw) ((ax60 sf sg).mono (by decide)) (sf.mono (by decide)) (cut_none hf hg sf sg hs hc hA hw hw2 a1 hn)
end
theorem mpBig_no {k:Nat} {s:ByteArray} (h:big k s=false):s.size≤k:=by
 have:=of_decide_eq_false h
 omega
theorem mpSmB_sz {k:Nat} {x y:Rat} (h:smB k (fR x) (fR y)=true):Sz k x∧Sz k y:=by
 unfold smB at h
 simp only [Bool.not_eq_true',Bool.or_eq_false_iff] at h
 exact ⟨⟨mpBig_no h.1,by rw [sz_nat]; exact mpBig_no h.2.1⟩,⟨mpBig_no h.2.2.1,by rw [sz_nat]; exact mpBig_no h.2.2.2⟩⟩
theorem sm_rsz {f:RQ} (hf:MayC f) (h:smC (.ok f hf)=true):RSz 60 f:=by
 have h2:smB 60 (fR f.a) (fR f.c)=true∧smB 60 (fR f.b.re) (fR f.b.im)=true:=by
  have:=h
  unfold smC at this
  rw [Bool.and_eq_true] at this
  exact this
 obtain ⟨a,c⟩:=mpSmB_sz h2.1
 exact ⟨a,mpSmB_sz h2.2,c⟩
theorem _root_.Go.Proofs.YtpccljaooghafaaGreat.MeetPoints_walk (p q:Cp) (W:World) :
  Calls Tryz.prog 11 #[.agg (p.a.V++p.b.V++p.b'.V++p.c.V).toArray,.agg (q.a.V++q.b.V++q.b'.V++q.c.V).toArray] W fun e W'=>e=.returned (.bool true)∧Below W.heap.size W W':=by
 cases h:(smC p&&smC q) with
 | false=>exact spec_yes (lp1 p q h) rfl rfl W
 | true =>
  cases n:(p.B&&q.B) with
  | false=>exact spec_yes (lp2 p q h n) rfl rfl W
  | true =>
   cases p with
   | no=>cases n
   | ok f hf=>cases q with
    | no=>cases n
    | ok g hg =>
     have h':=h
     rw [Bool.and_eq_true] at h'
     have sf:=sm_rsz hf h'.1
     have sg:=sm_rsz hg h'.2
     cases hs:eqRone f g with
     | true=>exact spec_yes (lpSame hf hg h hs rfl) rfl rfl W
     | false =>
      rcases cmpQ_cases (fsq f g) one1 with hc | hc | hc
      · rcases cut_any hf hg sf sg hs hc with ⟨h1,h2⟩ | ⟨A,B,hr,⟨fA,fB,hp⟩ | ⟨hAB,hp⟩⟩
        · exact spec_yes (lpNoRoot hf hg h hs hc h1 h2) rfl rfl W
        · exact spec_yes (lpTwo hf hg h hs hc hp hr fA fB) rfl rfl W
        · by_cases fA:FitP A
          · by_cases fB:FitP B
            · exact absurd ⟨fA,fB⟩ hAB
            · exact spec_yes (lpTwoBig hf hg h hs hc hp hr (iff_true_of fA) (iff_false_of fB) rfl) rfl rfl W
          · by_cases fB:FitP B
            · exact spec_yes (lpTwoBig hf hg h hs hc hp hr (iff_false_of fA) (iff_true_of fB) rfl) rfl rfl W
            · exact spec_yes (lpTwoBig hf hg h hs hc hp hr (iff_false_of fA) (iff_false_of fB) rfl) rfl rfl W
      · cases hi:decide ((tcQ f g).a=0) with
        | true =>
         exact spec_yes (lpOne hf hg h hs hc (oPtTInf hf hg (sf.mono (by decide)) (sg.mono (by decide)) hs hc hi).ok (oRpTInf hf hg (sf.mono (by decide)) (sg.mono (by decide)) hs hc hi).ok fit_inf) rfl rfl W
        | false =>
         have hr:=(oRpTFin hf hg (sf.mono (by decide)) (sg.mono (by decide)) hs hc hi).ok
         have hr2:OwnT refF f g (bxP1 (.fin (cenQ (tcQ f g)))) rpR1:=by rw [cen_eq]; exact hr
         by_cases hz:FitG (cenQ (tcQ f g))
         · exact spec_yes (lpOne hf hg h hs hc (oPtTFin hf hg (sf.mono (by decide)) (sg.mono (by decide)) hs hc hi hz).ok hr2 hz) rfl rfl W
         · exact spec_yes (lpOneBig hf hg h hs hc (sPtTNo hf hg (sf.mono (by decide)) (sg.mono (by decide)) hs hc hi hz).ok hr2 hz) rfl rfl W
      · exact spec_yes (lpApart hf hg h hs hc) rfl rfl W
end Go.Proofs.YtpccljaooghafaaGreat.Y
end
section
namespace Go.Proofs.YtpccljaooghafaaGreat
open Go.ChangeShapes Go.WideShapes Go.ChangeAt Go.RowKit
theorem cellsOf_bool:Tryz.prog.cellsOf 4=1:=by kernel_rfl
theorem cellsOf_string:Tryz.prog.cellsOf 9=1:=by kernel_rfl
theorem cellsOf_whole:Tryz.prog.cellsOf 23=2:=by kernel_rfl
theorem cellsOf_frac:Tryz.prog.cellsOf 25=4:=by kernel_rfl
section
variable {H:Type} {enc:TypeId × Value→H} {w:World} {base:Nat} {spare:Nat→Bool} {held:Bool}
set_option maxRecDepth 100000 in
theorem trod_whole {fuel:Nat} {cs:List Value} {x:DataW H × List MemPlace} (h:DataW.trod enc Tryz.prog w base spare held fuel 23 cs=some x) :
  ∃ (b:Bool) (s:ByteArray),cs=[.bool b,.string s]∧s.size≤maxLen:=by
 obtain ⟨xs,n,rfl,_,hlen,hxl,hf⟩:=DataW.trod_struct Tryz.underlying23 h
 rw [cellsOf_whole] at hlen
 have hx0:xs[0]?=some (xs[0]'(by rw [hxl]; decide)):=List.getElem?_eq_getElem _
 have hx1:xs[1]?=some (xs[1]'(by rw [hxl]; decide)):=List.getElem?_eq_getElem _
 have h0:DataW.trod enc Tryz.prog w base spare held n 4 ((cs.drop 0).take (Tryz.prog.cellsOf 4))=some _:=(hf 0 _ rfl).trans hx0
 have h1:DataW.trod enc Tryz.prog w base spare held n 9 ((cs.drop 1).take (Tryz.prog.cellsOf 9))=some _:=(hf 1 _ rfl).trans hx1
 rw [cellsOf_bool] at h0
 rw [cellsOf_string] at h1
 match cs,hlen with
 | [a,b],_ =>
  obtain ⟨p,e0,_⟩:=DataW.trod_bool Tryz.underlying4 h0
  obtain ⟨s,e1,_,hs⟩:=DataW.trod_string Tryz.underlying9 h1
  cases e0
  cases e1
  exact ⟨p,s,rfl,hs⟩
set_option maxRecDepth 100000 in
theorem trod_frac {fuel:Nat} {cs:List Value} {x:DataW H × List MemPlace} (h:DataW.trod enc Tryz.prog w base spare held fuel 25 cs=some x) :
  ∃ (b c:Bool) (s t:ByteArray),cs=[.bool b,.string s,.bool c,.string t]∧s.size≤maxLen∧t.size≤maxLen:=by
 obtain ⟨xs,n,rfl,_,hlen,hxl,hf⟩:=DataW.trod_struct Tryz.underlying25 h
 rw [cellsOf_frac] at hlen
 have hx0:xs[0]?=some (xs[0]'(by rw [hxl]; decide)):=List.getElem?_eq_getElem _
 have hx1:xs[1]?=some (xs[1]'(by rw [hxl]; decide)):=List.getElem?_eq_getElem _
 have h0:DataW.trod enc Tryz.prog w base spare held n 23 ((cs.drop 0).take (Tryz.prog.cellsOf 23))=some _:=(hf 0 _ rfl).trans hx0
 have h1:DataW.trod enc Tryz.prog w base spare held n 23 ((cs.drop 2).take (Tryz.prog.cellsOf 23))=some _:=(hf 1 _ rfl).trans hx1
 rw [cellsOf_whole] at h0 h1
 match cs,hlen with
 | [a,b,c,d],_ =>
  obtain ⟨p,s,e0,hs⟩:=trod_whole h0
  obtain ⟨q,t,e1,ht⟩:=trod_whole h1
  cases e0
  cases e1
  exact ⟨p,q,s,t,rfl,hs,ht⟩
end
end Go.Proofs.YtpccljaooghafaaGreat
end
section
namespace Go.Proofs.YtpccljaooghafaaGreat
open Go Go.ChangeShapes Go.WideShapes Go.ChangeAt Go.RowKit
theorem cellsOf_gauss:Tryz.prog.cellsOf 49=8:=by kernel_rfl
theorem chunk {α:Type} (cs:List α) (a b:Nat):cs.drop a=(cs.drop a).take b++cs.drop (a+b):=by
 rw [← List.drop_drop,List.take_append_drop]
def R4.ok (x:R4):Prop:=x.s.size≤maxLen∧x.t.size≤maxLen
section
variable {H:Type} {enc:TypeId × Value→H} {w:World} {base:Nat} {spare:Nat→Bool} {held:Bool}
theorem trod_r4 {fuel:Nat} {cs:List Value} {x:DataW H × List MemPlace} (h:DataW.trod enc Tryz.prog w base spare held fuel 25 cs=some x):∃ r:R4,cs=r.V∧r.ok:=by
 obtain ⟨b,c,s,t,e,h1,h2⟩:=trod_frac h
 exact ⟨⟨b,s,c,t⟩,e,h1,h2⟩
set_option maxRecDepth 100000 in
theorem trod_gauss {fuel:Nat} {cs:List Value} {x:DataW H × List MemPlace} (h:DataW.trod enc Tryz.prog w base spare held fuel 49 cs=some x):∃ r s:R4,cs=r.V++s.V∧r.ok∧s.ok:=by
 obtain ⟨xs,n,rfl,_,hlen,hxl,hf⟩:=DataW.trod_struct Tryz.underlying49 h
 rw [cellsOf_gauss] at hlen
 have hx0:xs[0]?=some (xs[0]'(by rw [hxl]; decide)):=List.getElem?_eq_getElem _
 have hx1:xs[1]?=some (xs[1]'(by rw [hxl]; decide)):=List.getElem?_eq_getElem _
 have h0:DataW.trod enc Tryz.prog w base spare held n 25 ((cs.drop 0).take (Tryz.prog.cellsOf 25))=some _:=(hf 0 _ rfl).trans hx0
 have h1:DataW.trod enc Tryz.prog w base spare held n 25 ((cs.drop 4).take (Tryz.prog.cellsOf 25))=some _:=(hf 1 _ rfl).trans hx1
 rw [cellsOf_frac] at h0 h1
 obtain ⟨r,e0,k0⟩:=trod_r4 h0
 obtain ⟨s,e1,k1⟩:=trod_r4 h1
 refine ⟨r,s,?_,k0,k1⟩
 have:=chunk cs 0 4
 rw [e0,List.drop_zero] at this
 rw [this,chunk cs (0+4) 4,e1,List.drop_of_length_le (by omega),List.append_nil]
end
end Go.Proofs.YtpccljaooghafaaGreat
end
section
namespace Go.Proofs.YtpccljaooghafaaGreat
open Go.ChangeShapes Go.WideShapes Go.ChangeAt Go.RowKit
section
variable {H:Type} {enc:TypeId × Value→H} {w:World} {base:Nat} {spare:Nat→Bool} {held:Bool}
theorem cellsOf_circle:Tryz.prog.cellsOf 112=16:=by kernel_rfl
set_option maxRecDepth 100000 in
theorem trod_circle {fuel:Nat} {cs:List Value} {x:DataW H × List MemPlace} (h:DataW.trod enc Tryz.prog w base spare held fuel 112 cs=some x) :
  ∃ (a b b' c:R4),cs=a.V++b.V++b'.V++c.V∧a.ok∧b.ok∧b'.ok∧c.ok:=by
 obtain ⟨xs,n,rfl,_,hlen,hxl,hf⟩:=DataW.trod_struct Tryz.underlying112 h
 rw [cellsOf_circle] at hlen
 have hx0:xs[0]?=some (xs[0]'(by rw [hxl]; decide)):=List.getElem?_eq_getElem _
 have hx1:xs[1]?=some (xs[1]'(by rw [hxl]; decide)):=List.getElem?_eq_getElem _
 have hx2:xs[2]?=some (xs[2]'(by rw [hxl]; decide)):=List.getElem?_eq_getElem _
 have h0:DataW.trod enc Tryz.prog w base spare held n 25 ((cs.drop 0).take (Tryz.prog.cellsOf 25))=some _:=(hf 0 _ rfl).trans hx0
 have h1:DataW.trod enc Tryz.prog w base spare held n 49 ((cs.drop 4).take (Tryz.prog.cellsOf 49))=some _:=(hf 1 _ rfl).trans hx1
 have h2:DataW.trod enc Tryz.prog w base spare held n 25 ((cs.drop 12).take (Tryz.prog.cellsOf 25))=some _:=(hf 2 _ rfl).trans hx2
 rw [cellsOf_frac] at h0 h2
 rw [cellsOf_gauss] at h1
 obtain ⟨a0,e0,k0⟩:=trod_r4 h0
 obtain ⟨a1,b1,e1,k1⟩:=trod_gauss h1
 obtain ⟨a2,e2,k2⟩:=trod_r4 h2
 refine ⟨a0,a1,b1,a2,?_,k0,k1.1,k1.2,k2⟩
 have c0:=chunk cs 0 4
 have c1:=chunk cs (0+4) 8
 have c2:=chunk cs (0+4+8) 4
 rw [List.drop_eq_nil_of_le (show cs.length≤0+4+8+4 by omega),List.append_nil] at c2
 rw [e2] at c2
 rw [e1,c2] at c1
 rw [e0,c1,List.drop_zero] at c0
 rw [c0]
 simp only [List.append_assoc]
set_option maxRecDepth 100000 in
theorem open_circle {r:Reach} {b0:Nat} {v:Value} {d:DataW H} {p:List MemPlace} (hv:Value.okWide Tryz.prog w r b0 112 v) (h:DataW.Trod enc Tryz.prog w base spare held 112 v d p) :
  ∃ q:Y.Cp,v=.agg (q.a.V++q.b.V++q.b'.V++q.c.V).toArray:=by
 obtain ⟨cs,rfl,hsz⟩:=okWide_struct Tryz.underlying112 hv
 obtain ⟨fuel,hf⟩:=h
 obtain ⟨l⟩:=cs
 obtain ⟨a,b,b',c,rfl,h1,h2,h3,h4⟩:=trod_circle hf
 obtain ⟨q,rfl,rfl,rfl,rfl⟩:=Y.cp_of a b b' c h1 h2 h3 h4
 exact ⟨q,rfl⟩
end
end Go.Proofs.YtpccljaooghafaaGreat
end
