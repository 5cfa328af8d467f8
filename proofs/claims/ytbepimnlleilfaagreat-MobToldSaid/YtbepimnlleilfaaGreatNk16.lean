/- MtdD, Open, OpnB, OpnD. -/
import Derived.ProofKit
import Derived.OpenShut
import Derived.ShutString
import Derived.ChangeOld
import Derived.Below
import Derived.Test.YtbepimnlleilfaaGreatNk15
set_option linter.unnecessarySimpa false
set_option linter.unusedVariables false
set_option linter.unusedSimpArgs false
section
namespace Go.Proofs.YtbepimnlleilfaaGreat.Y
open Go Go.RowKit
set_option maxRecDepth 100000
abbrev tdU (q n:MQ):GQ:=bif qQ6 (mbeh q n).c then (mbeh q n).d else (mbeh q n).c
theorem td_u0 {q n:MQ} (hq:Reg q) (hn:Reg n):tdU q n≠g0:=(hq.beh hn).by_ rfl
theorem td_usz {q n:MQ} (hq:MSz 120 q) (hn:MSz 120 n):GSz 1000 (tdU q n):=by
 have h:=hq.beh hn
 unfold tdU
 cases qQ6 (mbeh q n).c
 · exact h.c.mono (by decide)
 · exact h.d.mono (by decide)
theorem td_det {q n:MQ} (hq:Reg q) (hn:Reg n) (ht:q.t=false):gdiv (gmul (mdet q) (mdet n)) (mdet (mcmp q n))=sqZ (tdU q n):=by
 have h1:gmul (gmul (mdet (mcmp q n)) (tdU q n)) (tdU q n)=mdet (mbeh q n):=det_norm (m:=mbeh q n) (b:=qQ6 (mbeh q n).c) rfl (td_u0 hq hn)
 have h2:mdet (mbeh q n)=gmul (mdet q) (mdet n):=by
  rw [det_beh,ht]
  rfl
 rw [zX0 (hq.cmp hn),← h2,← h1]
 unfold sqZ
 generalize tdU q n=u
 generalize mdet (mcmp q n)=d
 refine GQ.ext2 ?_ ?_<;>(simp only [gmul]; grind)
theorem td_may {q:MQ} (hF:FitM q) (hr:Reg q) (hn:Nrm q):MayQ q:=by
 refine ⟨hF,gz_false.2 hr,?_⟩
 unfold Nrm at hn
 have one0:∀ {z:GQ},z=⟨1,0⟩→qQ6 (gsub z (gint 1 0))=true:=fun {z} e=>by
  rw [e,gz_true,gint10]
  exact GQ.ext2 (by simp only [gsub,g0]; grind) (by simp only [gsub,g0]; grind)
 cases hc:qQ6 q.c with
 | false=>rw [hc] at hn; exact .inl (one0 hn)
 | true=>rw [hc] at hn; exact .inr ⟨rfl,one0 hn⟩
theorem td_zero:∃ (m:Mp) (t:Bool),m.C=mob0L∧OpenNo m t:=by
 have k:r4k r40:=⟨Nat.zero_le _,Nat.zero_le _⟩
 obtain ⟨m,hC,h⟩:=map_all r40 r40 r40 r40 r40 r40 r40 r40 false k k k k k k k k
 rcases h with ⟨q,hq,e⟩ | ⟨⟨t,h⟩,_⟩
 · exfalso
   rw [hC,mg_mCl] at e
   have e0:maM r40 r40 r40 r40 r40 r40 r40 r40 false=rL r40++(rL r40++(rL r40++(rL r40++(rL r40++(rL r40++(rL r40++(rL r40++[.b (.v (.bool false))]))))))):=by simp only [maM,List.append_assoc]
   rw [e0] at e
   have e1:=(rl_app e).1
   have e2:(mag q.a.re.den).size=0:=congrArg ByteArray.size (congrArg R4.t e1).symm
   have e3:q.a.re.den<256^0:=mag_size_le.1 (by rw [e2]; exact Nat.le_refl 0)
   exact q.a.re.den_nz (by omega)
 · exact ⟨m,t,hC,h⟩
def TdZ:Prop:=∀ (β:Env) (w:World),Calls Tryz.prog 49 (([.one (.a mob0L)]:List SV).map (SV.den β)).toArray w fun e w'=>∃ xs:List Pl,qK2 β w 0 xs∧e=.returned ((SV.tup [.a (lsX g0C),nI' 2]).den (extE β 0 xs))∧qZ0 w' [] xs∧Below w.heap.size w w'
theorem td_z:TdZ:=fun β w=>by
 obtain ⟨m,t,hC,h⟩:=td_zero
 have:=(sMaDetNo h).ok β w (fun k t ht=>by cases ht)
 rw [← hC]
 exact this
def sTdZ:Spec Tryz.prog:=⟨49,Tryz.call49,[.one (.a mob0L)],[],.tup [.a (lsX g0C),nI' 2],[],fun β w _=>td_z β w,by kernel_rfl⟩
noncomputable def sTdY {q:MQ} (hq:MayQ q) (hF:FitG (mdet q)):Spec Tryz.prog:=(zH6 hq).conv (.tup [.a (lsX (gC (mdet q))),nI' 0]) (by
 show SV.tup [.a (lsX (gaC (mdet q))),nI' (gaK (mdet q))]=_
 rw [(zX1 hF).1,(zX1 hF).2])
noncomputable def sTdN {q:MQ} (hq:MayQ q) (hF:¬ FitG (mdet q)):Spec Tryz.prog:=(zH6 hq).conv (.tup [.a (lsX (gaC (mdet q))),nI' 4]) (by
 show SV.tup [.a (lsX (gaC (mdet q))),nI' (gaK (mdet q))]=_
 rw [(ga_not hF).2])
section
variable {q n:MQ} {p0 p1 p2:Pp} (hq:MayQ q) (hn:MayQ n) (w:World)
theorem td_tY (hF:FitM (mcmp q n)) (hc:MayQ (mcmp q n)) (h:(q.t||n.t)=true):tdH q n p0 p1 p2 w 18 (tdC q n p0 p1 p2 [(sCompY hq hn hF).e,(zH6 hq).e,(zH6 hn).e,(zH6 hc).e,sWorks.e]):=by
 obtain ⟨a,b,c,d,t⟩:=q
 obtain ⟨a',b',c',d',t'⟩:=n
 cases t
 · cases t'
   · cases h
   · exact zY3 (Ns:=tdNs) (m:=1200) 1000 hmA (fun β=>qQ0 (by kernel_rfl))
 · exact zY3 (Ns:=tdNs) (m:=1200) 1000 hmA (fun β=>qQ0 (by kernel_rfl))
theorem td_tN (hF:¬ FitM (mcmp q n)) (h:(q.t||n.t)=true):tdH q n p0 p1 p2 w 18 (tdC q n p0 p1 p2 [(sCompN hq hn hF).e,(zH6 hq).e,(zH6 hn).e,sTdZ.e,sWorks.e]):=by
 obtain ⟨a,b,c,d,t⟩:=q
 obtain ⟨a',b',c',d',t'⟩:=n
 cases t
 · cases t'
   · cases h
   · exact zY3 (Ns:=tdNs) (m:=1200) 1000 hmA (fun β=>qQ0 (by kernel_rfl))
 · exact zY3 (Ns:=tdNs) (m:=1200) 1000 hmA (fun β=>qQ0 (by kernel_rfl))
variable (ht:q.t=false) (ht':n.t=false)
include ht ht' in
theorem td_n0 (hF:¬ FitM (mcmp q n)):tdH q n p0 p1 p2 w 18 (tdC q n p0 p1 p2 [(sCompN hq hn hF).e,(zH6 hq).e,(zH6 hn).e,sTdZ.e,(sOkQ0 (gaK (mdet q)) (gaK (mdet n)) 2).e,sWorks.e]):=by
 obtain ⟨a,b,c,d,t⟩:=q
 obtain ⟨a',b',c',d',t'⟩:=n
 cases ht
 cases ht'
 exact zY3 (Ns:=tdNs) (m:=1200) 1000 hmA (fun β=>qQ0 (by kernel_rfl))
variable (hF:FitM (mcmp q n)) (hc:MayQ (mcmp q n))
include ht ht' in
theorem td_n1 (h1:¬ FitG (mdet q)):tdH q n p0 p1 p2 w 18 (tdC q n p0 p1 p2 [(sCompY hq hn hF).e,(sTdN hq h1).e,(zH6 hn).e,(zH6 hc).e,(sOkQ1 (gaK (mdet n)) (gaK (mdet (mcmp q n)))).e,sWorks.e]):=by
 obtain ⟨a,b,c,d,t⟩:=q
 obtain ⟨a',b',c',d',t'⟩:=n
 cases ht
 cases ht'
 exact zY3 (Ns:=tdNs) (m:=1200) 1000 hmA (fun β=>qQ0 (by kernel_rfl))
include ht ht' in
theorem td_n2 (h1:FitG (mdet q)) (h2:¬ FitG (mdet n)):tdH q n p0 p1 p2 w 18 (tdC q n p0 p1 p2 [(sCompY hq hn hF).e,(sTdY hq h1).e,(sTdN hn h2).e,(zH6 hc).e,(sOkQ2 (gaK (mdet (mcmp q n)))).e,sWorks.e]):=by
 obtain ⟨a,b,c,d,t⟩:=q
 obtain ⟨a',b',c',d',t'⟩:=n
 cases ht
 cases ht'
 exact zY3 (Ns:=tdNs) (m:=1200) 1000 hmA (fun β=>qQ0 (by kernel_rfl))
include ht ht' in
theorem td_n3 (h1:FitG (mdet q)) (h2:FitG (mdet n)) (h3:¬ FitG (mdet (mcmp q n))):tdH q n p0 p1 p2 w 18 (tdC q n p0 p1 p2 [(sCompY hq hn hF).e,(sTdY hq h1).e,(sTdY hn h2).e,(sTdN hc h3).e,sOkQ3.e,sWorks.e]):=by
 obtain ⟨a,b,c,d,t⟩:=q
 obtain ⟨a',b',c',d',t'⟩:=n
 cases ht
 cases ht'
 exact zY3 (Ns:=tdNs) (m:=1200) 1000 hmA (fun β=>qQ0 (by kernel_rfl))
noncomputable def tdOver (h1:FitG (mdet q)) (h2:FitG (mdet n)) (h3:FitG (mdet (mcmp q n))) (hq:MayQ q) (hn:MayQ n) (ht:q.t=false):Spec Tryz.prog :=
 (sR4Over ((h1.gsz.mul h2.gsz).mono (by decide)) (h3.gsz.mono (by decide)) (gz_false.2 (hq.reg.cmp hn.reg))).conv (.one (.a (gC (sqZ (tdU q n))))) (by
  show svG (gdiv (gmul (mdet q) (mdet n)) (mdet (mcmp q n)))=_
  rw [td_det hq.reg hn.reg ht])
noncomputable def tdSq (u:GQ):Ev Tryz.prog:=eqEvG (fR (gmul (sqW u) (sqW u)).re) (fR (gmul (sqW u) (sqW u)).im) (fR (sqZ u).re) (fR (sqZ u).im) true (by rw [su_sq]; exact geq_self _ _)
include ht ht' in
theorem td_n4 (hs:GSz 1000 (tdU q n)) (h1:FitG (mdet q)) (h2:FitG (mdet n)) (h3:FitG (mdet (mcmp q n))):tdH q n p0 p1 p2 w 18 (tdC q n p0 p1 p2 [(sCompY hq hn hF).e,(sTdY hq h1).e,(sTdY hn h2).e,(sTdY hc h3).e,sOkQ.e,
  (sR4Times (h1.gsz.mono (by decide)) (h2.gsz.mono (by decide))).e,(tdOver h1 h2 h3 hq hn ht).e,(sSu hs).e,(sR4Times ((su_wsz hs).mono (by decide)) ((su_wsz hs).mono (by decide))).e,tdSq (tdU q n),sWorks.e]):=by
 obtain ⟨a,b,c,d,t⟩:=q
 obtain ⟨a',b',c',d',t'⟩:=n
 cases ht
 cases ht'
 exact zY3 (Ns:=tdNs) (m:=1200) 1000 hmA (fun β=>qQ0 (by kernel_rfl))
end
theorem td_18 {q n:MQ} (p0 p1 p2:Pp) (hq:MayQ q) (hn:MayQ n) (sq:MSz 120 q) (sn:MSz 120 n) (w:World):tdH q n p0 p1 p2 w 18 (tdC q n p0 p1 p2 []):=by
 by_cases hF:FitM (mcmp q n)
 · have hc:MayQ (mcmp q n):=td_may hF (hq.reg.cmp hn.reg) (Nrm.cmp hq.reg hn.reg)
   cases ht:(q.t||n.t) with
   | true=>exact at_ev (td_tY hq hn w hF hc ht)
   | false =>
    rw [Bool.or_eq_false_iff] at ht
    by_cases h1:FitG (mdet q)
    · by_cases h2:FitG (mdet n)
      · by_cases h3:FitG (mdet (mcmp q n))
        · exact at_ev (td_n4 hq hn w ht.1 ht.2 hF hc (td_usz sq sn) h1 h2 h3)
        · exact at_ev (td_n3 hq hn w ht.1 ht.2 hF hc h1 h2 h3)
      · exact at_ev (td_n2 hq hn w ht.1 ht.2 hF hc h1 h2)
    · exact at_ev (td_n1 hq hn w ht.1 ht.2 hF hc h1)
 · cases ht:(q.t||n.t) with
   | true=>exact at_ev (td_tN hq hn w hF ht)
   | false =>
    rw [Bool.or_eq_false_iff] at ht
    exact at_ev (td_n0 hq hn w ht.1 ht.2 hF)
theorem td_11 {q n:MQ} (p0 p1 p2:Pp) (hq:MayQ q) (hn:MayQ n) (sq:MSz 120 q) (sn:MSz 120 n) (w:World):tdH q n p0 p1 p2 w 11 (tdC q n p0 p1 p2 []):=by
 have k:=td_18 p0 p1 p2 hq hn sq sn w
 obtain ⟨o,hf,ho⟩:=ord_all hq
 rcases hf with ⟨rfl,_⟩ | ⟨h1,h2,h3,h4⟩
 · exact at_ev (td_or0 w ho k (by decide))
 · have hb:decide ((0:Int)<(o:Int))=true:=decide_eq_true (by omega)
   have hB:pwB q (o:Int)=q:=if_pos (by omega)
   have hn:(o:Int).natAbs=o:=rfl
   have h256:(o:Int).natAbs≤256:=by rw [hn]; omega
   rcases pw_cases (pwB q (o:Int)) (o:Int).natAbs with hP | ⟨i,hi,hP,hP2⟩
   · exact at_ev (td_orY hq w ho k hb hP h256 (by rw [hB,hn]; exact h3))
   · exact at_ev (td_orN hq w ho k hb h256 hi hP hP2)
theorem pp_pt {p:Pp} (h:p.B=true):lsX p.w.C=lsX (ppQ p).w.C:=by rw [(ppQ_ok h).2]
theorem p3_pt {p0 p1 p2:Pp} (h0:p0.B=true) (h1:p1.B=true) (h2:p2.B=true):p3L p0 p1 p2=lsX ((ppQ p0).w.C++(ppQ p1).w.C++(ppQ p2).w.C):=by
 show lsX p0.w.C++lsX p1.w.C++lsX p2.w.C=_
 rw [pp_pt h0,pp_pt h1,pp_pt h2]
section
variable {q:MQ} {p0 p1 p2:Pp} (hq:MayQ q) (h0:p0.B=true) (h1:p1.B=true) (h2:p2.B=true) (f0:FitP (maR q p0)) (f1:FitP (maR q p1)) (f2:FitP (maR q p2))
include h0 h1 h2 f0 f1 f2 in
theorem td_p6:P6 (ppQ p0) (ppQ p1) (ppQ p2) (maR q p0) (maR q p1) (maR q p2) FitP:=⟨(ppQ_ok h0).1,(ppQ_ok h1).1,(ppQ_ok h2).1,f0,f1,f2⟩
include hq h0 h1 h2 f0 f1 f2 in
theorem td_ofY (a:ppQ p0≠ppQ p1) (b:ppQ p1≠ppQ p2) (c:ppQ p0≠ppQ p2):TdOf q p0 p1 p2 (mCl q) 0:=fun β w=>by
 have g1:maR q p0≠maR q p1:=fun e=>a (send_inj hq.reg e)
 have g2:maR q p1≠maR q p2:=fun e=>b (send_inj hq.reg e)
 have g3:maR q p0≠maR q p2:=fun e=>c (send_inj hq.reg e)
 have six:Six (ppQ p0) (ppQ p1) (ppQ p2) (maR q p0) (maR q p1) (maR q p2):=⟨a,b,Ne.symm c,g1,g2,Ne.symm g3⟩
 have hm:mof (ppQ p0) (ppQ p1) (ppQ p2) (maR q p0) (maR q p1) (maR q p2) q.t=q:=mof_is hq.reg hq.nrm a b (Ne.symm c)
 have k:=(sOf3 (td_p6 h0 h1 h2 f0 f1 f2) q.t six).ok β w (fun k t ht=>by cases ht)
 have e1:(sOf3 (td_p6 h0 h1 h2 f0 f1 f2) q.t six).res=.tup [.a (mCl q),nI' 0]:=by
  show SV.tup [.a (lsX (maC (mof (ppQ p0) (ppQ p1) (ppQ p2) (maR q p0) (maR q p1) (maR q p2) q.t))),nI' (maK (mof (ppQ p0) (ppQ p1) (ppQ p2) (maR q p0) (maR q p1) (maR q p2) q.t))]=_
  rw [hm,(ma_fit hq.1).1,(ma_fit hq.1).2]
 rw [e1] at k
 rw [p3_pt h0 h1 h2]
 exact k
omit hq in
include h0 h1 h2 f0 f1 f2 in
theorem td_ofT (h:ppQ p0=ppQ p1∨ppQ p1=ppQ p2∨ppQ p0=ppQ p2):TdOf q p0 p1 p2 mob0L 181:=fun β w=>by
 have hor:(ptB (ppQ p0) (ppQ p1)||ptB (maR q p0) (maR q p1)||ptB (ppQ p1) (ppQ p2)||ptB (maR q p1) (maR q p2)||ptB (ppQ p2) (ppQ p0)||ptB (maR q p2) (maR q p0))=true:=by
  rcases h with h | h | h
  · rw [ptB_iff.2 h]; simp
  · rw [ptB_iff.2 h]; simp
  · rw [ptB_iff.2 h.symm]; simp
 have k:=(sOfTwin (td_p6 h0 h1 h2 f0 f1 f2) q.t rfl rfl rfl rfl rfl rfl hor).ok β w (fun k t ht=>by cases ht)
 rw [p3_pt h0 h1 h2]
 exact k
end
theorem td_pw {p r:Pp} (hp:p.B=true) (hr:r.B=true):rwB p.w.i r.w.i p.w.x p.w.y r.w.x r.w.y=ptB (ppQ p) (ppQ r):=by
 rw [(ppQ_ok hp).2,(ppQ_ok hr).2]
 rfl
theorem td_eq {p r:Pp} (hp:p.B=true) (hr:r.B=true) (e:ppQ p=ppQ r):tdPw p r true:=by
 unfold tdPw
 rw [td_pw hp hr]
 exact ptB_iff.2 e
theorem td_ne {p r:Pp} (hp:p.B=true) (hr:r.B=true) (e:ppQ p≠ppQ r):tdPw p r false:=by
 unfold tdPw
 rw [td_pw hp hr]
 exact ptB_ne' e
theorem lt3 {Q:Nat→Prop}:(∃ i,i<3∧¬ Q i∧∀ k,k<i→Q k)∨∀ i,i<3→Q i:=by
 by_cases h0:Q 0
 · by_cases h1:Q 1
   · by_cases h2:Q 2
     · exact .inr fun i hi=>match i,hi with
        | 0,_=>h0
        | 1,_=>h1
        | 2,_=>h2
     · exact .inl ⟨2,by decide,h2,fun k hk=>match k,hk with
        | 0,_=>h0
        | 1,_=>h1⟩
   · exact .inl ⟨1,by decide,h1,fun k hk=>match k,hk with
      | 0,_=>h0⟩
 · exact .inl ⟨0,by decide,h0,fun k hk=>absurd hk (Nat.not_lt_zero k)⟩
theorem td_st {q n:MQ} {p0 p1 p2:Pp} (hf:Far2 (mCl q) (mCl n) false) (ho:Off3 p0.w p1.w p2.w false) (hq:MayQ q) (hn:MayQ n) (sq:MSz 120 q) (sn:MSz 120 n) (w:World) :
  Calls Tryz.prog 8 ((tdA (mCl q) (mCl n) p0 p1 p2).map (SV.den idE)).toArray w (Said Tryz.prog tdF 0 (tB' true) [] idE w):=by
 have kk:=td_11 p0 p1 p2 hq hn sq sn w
 rcases lt3 (Q:=fun i=>(P3 p0 p1 p2 i).B=true) with ⟨i,hi,h,h2⟩ | hB
 · exact td_stNo hf ho hq hn w hi (by simpa using h) h2 kk
 rcases lt3 (Q:=fun i=>FitP (maR q (P3 p0 p1 p2 i))) with ⟨i,hi,h,h2⟩ | hF
 · exact td_stUnt hf ho hq hn w hB hi h h2 kk
 have b0:p0.B=true:=hB 0 (by decide)
 have b1:p1.B=true:=hB 1 (by decide)
 have b2:p2.B=true:=hB 2 (by decide)
 have f0:FitP (maR q p0):=hF 0 (by decide)
 have f1:FitP (maR q p1):=hF 1 (by decide)
 have f2:FitP (maR q p2):=hF 2 (by decide)
 by_cases e1:ppQ p0=ppQ p1
 · exact td_stT1 hf ho hq hn w hB hF (td_eq b0 b1 e1) (td_ofT b0 b1 b2 f0 f1 f2 (.inl e1)) kk
 by_cases e2:ppQ p1=ppQ p2
 · exact td_stT2 hf ho hq hn w hB hF (td_ne b0 b1 e1) (td_eq b1 b2 e2) (td_ofT b0 b1 b2 f0 f1 f2 (.inr (.inl e2))) kk
 by_cases e3:ppQ p0=ppQ p2
 · exact td_stT3 hf ho hq hn w hB hF (td_ne b0 b1 e1) (td_ne b1 b2 e2) (td_eq b0 b2 e3) (td_ofT b0 b1 b2 f0 f1 f2 (.inr (.inr e3))) kk
 exact td_stY hf ho hq hn w hB hF (td_ne b0 b1 e1) (td_ne b1 b2 e2) (td_ne b0 b2 e3) (td_ofY hq b0 b1 b2 f0 f1 f2 e1 e2 e3) kk
theorem td_walk (x0 y0 x1 y1 x2 y2 x3 y3:R4) (t:Bool) (h0:r4k x0) (k0:r4k y0) (h1:r4k x1) (k1:r4k y1) (h2:r4k x2) (k2:r4k y2) (h3:r4k x3) (k3:r4k y3)
  (x0' y0' x1' y1' x2' y2' x3' y3':R4) (t':Bool) (h0':r4k x0') (k0':r4k y0') (h1':r4k x1') (k1':r4k y1') (h2':r4k x2') (k2':r4k y2') (h3':r4k x3') (k3':r4k y3') (p0 p1 p2:Pp) (w:World) :
  Calls Tryz.prog 8 ((tdA (maM x0 y0 x1 y1 x2 y2 x3 y3 t) (maM x0' y0' x1' y1' x2' y2' x3' y3' t') p0 p1 p2).map (SV.den idE)).toArray w fun e w'=>e=.returned (.bool true)∧Below w.heap.size w w':=by
 have hfar:∀ (x0 y0 x1 y1 x2 y2 x3 y3:R4) (t:Bool),r4k x0→r4k y0→r4k x1→r4k y1→r4k x2→r4k y2→r4k x3→r4k y3→∃ a b c d:Gn,mgL a b c d t=maM x0 y0 x1 y1 x2 y2 x3 y3 t∧∃ r,Lg4 a b c d r:=fun x0 y0 x1 y1 x2 y2 x3 y3 t h0 k0 h1 k1 h2 k2 h3 k3=>by
  obtain ⟨a,rfl,rfl⟩:=gn_of x0 y0 h0 k0
  obtain ⟨b,rfl,rfl⟩:=gn_of x1 y1 h1 k1
  obtain ⟨c,rfl,rfl⟩:=gn_of x2 y2 h2 k2
  obtain ⟨d,rfl,rfl⟩:=gn_of x3 y3 h3 k3
  exact ⟨a,b,c,d,rfl,Lg4.all a b c d⟩
 obtain ⟨a,b,c,d,hC,r,hL⟩:=hfar x0 y0 x1 y1 x2 y2 x3 y3 t h0 k0 h1 k1 h2 k2 h3 k3
 obtain ⟨a',b',c',d',hC',r',hL'⟩:=hfar x0' y0' x1' y1' x2' y2' x3' y3' t' h0' k0' h1' k1' h2' k2' h3' k3'
 obtain ⟨m,hmC,hmap⟩:=map_all x0 y0 x1 y1 x2 y2 x3 y3 t h0 k0 h1 k1 h2 k2 h3 k3
 obtain ⟨m',hmC',hmap'⟩:=map_all x0' y0' x1' y1' x2' y2' x3' y3' t' h0' k0' h1' k1' h2' k2' h3' k3'
 rw [← hmC] at hC ⊢
 rw [← hmC'] at hC' ⊢
 have hF:Far2 m.C m'.C (r||r'):=by
  rw [← hC,← hC']
  exact far2_ok a b c d t a' b' c' d' t' hL hL'
 have fin2:∀ {l l':List Lf} (S:Spec Tryz.prog),S.f=8→S.args=tdA l l' p0 p1 p2→S.obs=[]→S.res=tB' true→Calls Tryz.prog 8 ((tdA l l' p0 p1 p2).map (SV.den idE)).toArray w fun e w'=>e=.returned (.bool true)∧Below w.heap.size w w':=fun {l l'} S h1 h2 h3 h4=>by
  have:=S.ok idE w (fun k t ht=>by rw [h3] at ht; simp at ht)
  rw [h1,h2] at this
  refine this.mono fun e w' ⟨xs,_,he,_,hb⟩=>⟨?_,hb⟩
  rw [he,h4]
  rfl
 obtain ⟨u,hO⟩:=Off3.all p0.w p1.w p2.w
 cases hr:(r||r') with
 | true=>rw [hr] at hF; exact fin2 (tdFar p0 p1 p2 hF) rfl rfl rfl rfl
 | false =>
 rw [hr] at hF
 rw [Bool.or_eq_false_iff] at hr
 obtain ⟨rfl,rfl⟩:=hr
 cases u with
 | true=>exact fin2 (tdOff p0 p1 p2 hF hO) rfl rfl rfl rfl
 | false =>
 rcases hmap with ⟨q,hq,e⟩ | ⟨⟨v,hv⟩,_⟩
 · have sq:MSz 120 q:=pp_sz hL (hC.trans e) hq.1
   rcases hmap' with ⟨n,hn,e'⟩ | ⟨⟨v,hv⟩,_⟩
   · have sn:MSz 120 n:=pp_sz hL' (hC'.trans e') hn.1
     rw [e,e'] at hF ⊢
     refine (td_st hF hO hq hn sq sn w).mono fun e w' h=>?_
     obtain ⟨β',q,obj,_,rfl,_,_,_,g⟩:=h
     exact ⟨rfl,g.bel⟩
   · rw [e] at hF ⊢
     exact fin2 (tdCk2 p0 p1 p2 hF hO hq hv) rfl rfl rfl rfl
 · exact fin2 (tdCk1 p0 p1 p2 hF hO hv) rfl rfl rfl rfl
end Go.Proofs.YtbepimnlleilfaaGreat.Y
namespace Go.Proofs.YtbepimnlleilfaaGreat
open Go.Proofs.YtbepimnlleilfaaGreat.Y Go Go.RowKit
theorem MobTold_walk (x0 y0 x1 y1 x2 y2 x3 y3:R4) (t:Bool) (x0' y0' x1' y1' x2' y2' x3' y3':R4) (t':Bool) (r0 r1 r2:Rw) (h0:Y.r4k x0) (k0:Y.r4k y0) (h1:Y.r4k x1) (k1:Y.r4k y1) (h2:Y.r4k x2) (k2:Y.r4k y2) (h3:Y.r4k x3) (k3:Y.r4k y3)
  (h0':Y.r4k x0') (k0':Y.r4k y0') (h1':Y.r4k x1') (k1':Y.r4k y1') (h2':Y.r4k x2') (k2':Y.r4k y2') (h3':Y.r4k x3') (k3':Y.r4k y3') (g0:r0.ok) (g1:r1.ok) (g2:r2.ok) (W:World) :
  Calls Tryz.prog 8 #[.agg (x0.V++y0.V++x1.V++y1.V++x2.V++y2.V++x3.V++y3.V++[Value.bool t]).toArray,.agg (x0'.V++y0'.V++x1'.V++y1'.V++x2'.V++y2'.V++x3'.V++y3'.V++[Value.bool t']).toArray,.agg ((.bool r0.i::(r0.x.V++r0.y.V))++(.bool r1.i::(r1.x.V++r1.y.V))++(.bool r2.i::(r2.x.V++r2.y.V))).toArray] W fun e W'=>e=.returned (.bool true)∧Below W.heap.size W W':=by
 obtain ⟨p0,rfl⟩:=pp_of r0 g0
 obtain ⟨p1,rfl⟩:=pp_of r1 g1
 obtain ⟨p2,rfl⟩:=pp_of r2 g2
 exact Y.td_walk x0 y0 x1 y1 x2 y2 x3 y3 t h0 k0 h1 k1 h2 k2 h3 k3 x0' y0' x1' y1' x2' y2' x3' y3' t' h0' k0' h1' k1' h2' k2' h3' k3' p0 p1 p2 W
end Go.Proofs.YtbepimnlleilfaaGreat
end
section
namespace Go.Proofs.YtbepimnlleilfaaGreat
open Go.ChangeShapes Go.WideShapes Go.ChangeAt Go.RowKit
theorem cellsOf_bool:Tryz.prog.cellsOf 4=1:=by kernel_rfl
theorem cellsOf_string:Tryz.prog.cellsOf 9=1:=by kernel_rfl
theorem cellsOf_whole:Tryz.prog.cellsOf 23=2:=by kernel_rfl
theorem cellsOf_frac:Tryz.prog.cellsOf 25=4:=by kernel_rfl
section
variable {H:Type} {enc:TypeId × Value→H} {w:World} {base:Nat} {spare:Nat→Bool} {held:Bool}
set_option maxRecDepth 100000 in
theorem trod_whole {fuel:Nat} {cs:List Value} {x:DataW H × List MemPlace} (h:DataW.trod enc Tryz.prog w base spare held fuel 23 cs=some x) :
  ∃ (b:Bool) (s:ByteArray),cs=[.bool b,.string s]∧s.size≤maxLen:=by
 obtain ⟨xs,n,rfl,_,hlen,hxl,hf⟩:=DataW.trod_struct Tryz.underlying23 h
 rw [cellsOf_whole] at hlen
 have hx0:xs[0]?=some (xs[0]'(by rw [hxl]; decide)):=List.getElem?_eq_getElem _
 have hx1:xs[1]?=some (xs[1]'(by rw [hxl]; decide)):=List.getElem?_eq_getElem _
 have h0:DataW.trod enc Tryz.prog w base spare held n 4 ((cs.drop 0).take (Tryz.prog.cellsOf 4))=some _:=(hf 0 _ rfl).trans hx0
 have h1:DataW.trod enc Tryz.prog w base spare held n 9 ((cs.drop 1).take (Tryz.prog.cellsOf 9))=some _:=(hf 1 _ rfl).trans hx1
 rw [cellsOf_bool] at h0
 rw [cellsOf_string] at h1
 match cs,hlen with
 | [a,b],_ =>
  obtain ⟨p,e0,_⟩:=DataW.trod_bool Tryz.underlying4 h0
  obtain ⟨s,e1,_,hs⟩:=DataW.trod_string Tryz.underlying9 h1
  cases e0
  cases e1
  exact ⟨p,s,rfl,hs⟩
set_option maxRecDepth 100000 in
theorem trod_frac {fuel:Nat} {cs:List Value} {x:DataW H × List MemPlace} (h:DataW.trod enc Tryz.prog w base spare held fuel 25 cs=some x) :
  ∃ (b c:Bool) (s t:ByteArray),cs=[.bool b,.string s,.bool c,.string t]∧s.size≤maxLen∧t.size≤maxLen:=by
 obtain ⟨xs,n,rfl,_,hlen,hxl,hf⟩:=DataW.trod_struct Tryz.underlying25 h
 rw [cellsOf_frac] at hlen
 have hx0:xs[0]?=some (xs[0]'(by rw [hxl]; decide)):=List.getElem?_eq_getElem _
 have hx1:xs[1]?=some (xs[1]'(by rw [hxl]; decide)):=List.getElem?_eq_getElem _
 have h0:DataW.trod enc Tryz.prog w base spare held n 23 ((cs.drop 0).take (Tryz.prog.cellsOf 23))=some _:=(hf 0 _ rfl).trans hx0
 have h1:DataW.trod enc Tryz.prog w base spare held n 23 ((cs.drop 2).take (Tryz.prog.cellsOf 23))=some _:=(hf 1 _ rfl).trans hx1
 rw [cellsOf_whole] at h0 h1
 match cs,hlen with
 | [a,b,c,d],_ =>
  obtain ⟨p,s,e0,hs⟩:=trod_whole h0
  obtain ⟨q,t,e1,ht⟩:=trod_whole h1
  cases e0
  cases e1
  exact ⟨p,q,s,t,rfl,hs,ht⟩
end
end Go.Proofs.YtbepimnlleilfaaGreat
end
section
namespace Go.Proofs.YtbepimnlleilfaaGreat
open Go Go.ChangeShapes Go.WideShapes Go.ChangeAt Go.RowKit
theorem zH3:Tryz.prog.cellsOf 46=8:=by kernel_rfl
theorem cellsOf_point:Tryz.prog.cellsOf 61=9:=by kernel_rfl
theorem cellsOf_mob:Tryz.prog.cellsOf 48=33:=by kernel_rfl
theorem cellsOf_p3:Tryz.prog.cellsOf 81=27:=by kernel_rfl
theorem okWide_array {P:Program} {w:World} {r:Reach} {base:Nat} {t e:TypeId} {v:Value} {n:Nat} (ht:P.underlying t=some (.array n e)) (h:Value.okWide P w r base t v):∃ cs,v=.agg cs∧cs.size=P.cellsOf t:=by
 simp only [Value.okWide,ht] at h
 obtain ⟨cs,h1,h2,_⟩:=h
 exact ⟨cs,h1,h2⟩
theorem chunk {α:Type} (cs:List α) (a b:Nat):cs.drop a=(cs.drop a).take b++cs.drop (a+b):=by
 rw [← List.drop_drop,List.take_append_drop]
def R4.ok (x:R4):Prop:=x.s.size≤maxLen∧x.t.size≤maxLen
section
variable {H:Type} {enc:TypeId × Value→H} {w:World} {base:Nat} {spare:Nat→Bool} {held:Bool}
theorem trod_r4 {fuel:Nat} {cs:List Value} {x:DataW H × List MemPlace} (h:DataW.trod enc Tryz.prog w base spare held fuel 25 cs=some x):∃ r:R4,cs=r.V∧r.ok:=by
 obtain ⟨b,c,s,t,e,h1,h2⟩:=trod_frac h
 exact ⟨⟨b,s,c,t⟩,e,h1,h2⟩
set_option maxRecDepth 100000 in
theorem zV0 {fuel:Nat} {cs:List Value} {x:DataW H × List MemPlace} (h:DataW.trod enc Tryz.prog w base spare held fuel 46 cs=some x):∃ r s:R4,cs=r.V++s.V∧r.ok∧s.ok:=by
 obtain ⟨xs,n,rfl,_,hlen,hxl,hf⟩:=DataW.trod_struct Tryz.underlying46 h
 rw [zH3] at hlen
 have hx0:xs[0]?=some (xs[0]'(by rw [hxl]; decide)):=List.getElem?_eq_getElem _
 have hx1:xs[1]?=some (xs[1]'(by rw [hxl]; decide)):=List.getElem?_eq_getElem _
 have h0:DataW.trod enc Tryz.prog w base spare held n 25 ((cs.drop 0).take (Tryz.prog.cellsOf 25))=some _:=(hf 0 _ rfl).trans hx0
 have h1:DataW.trod enc Tryz.prog w base spare held n 25 ((cs.drop 4).take (Tryz.prog.cellsOf 25))=some _:=(hf 1 _ rfl).trans hx1
 rw [cellsOf_frac] at h0 h1
 obtain ⟨r,e0,k0⟩:=trod_r4 h0
 obtain ⟨s,e1,k1⟩:=trod_r4 h1
 refine ⟨r,s,?_,k0,k1⟩
 have:=chunk cs 0 4
 rw [e0,List.drop_zero] at this
 rw [this,chunk cs (0+4) 4,e1,List.drop_of_length_le (by omega),List.append_nil]
set_option maxRecDepth 100000 in
theorem trod_point {fuel:Nat} {cs:List Value} {x:DataW H × List MemPlace} (h:DataW.trod enc Tryz.prog w base spare held fuel 61 cs=some x):∃ (i:Bool) (r s:R4),cs=.bool i::(r.V++s.V)∧r.ok∧s.ok:=by
 obtain ⟨xs,n,rfl,_,hlen,hxl,hf⟩:=DataW.trod_struct Tryz.underlying61 h
 rw [cellsOf_point] at hlen
 have hx0:xs[0]?=some (xs[0]'(by rw [hxl]; decide)):=List.getElem?_eq_getElem _
 have hx1:xs[1]?=some (xs[1]'(by rw [hxl]; decide)):=List.getElem?_eq_getElem _
 have h0:DataW.trod enc Tryz.prog w base spare held n 4 ((cs.drop 0).take (Tryz.prog.cellsOf 4))=some _:=(hf 0 _ rfl).trans hx0
 have h1:DataW.trod enc Tryz.prog w base spare held n 46 ((cs.drop 1).take (Tryz.prog.cellsOf 46))=some _:=(hf 1 _ rfl).trans hx1
 rw [cellsOf_bool] at h0
 rw [zH3] at h1
 obtain ⟨r,s,e1,k1⟩:=zV0 h1
 have e3:cs.drop 1=r.V++s.V:=by
  have:=chunk cs 1 8
  rw [e1] at this
  rw [this,List.drop_of_length_le (show cs.length≤1+8 by omega),List.append_nil]
 have e2:cs=cs.take 1++(r.V++s.V):=by rw [← e3,List.take_append_drop]
 match hc:(cs.take 1),(show (cs.take 1).length=1 by rw [List.length_take]; omega) with
 | [a],_ =>
  rw [List.drop_zero,hc] at h0
  obtain ⟨i,e0,_⟩:=DataW.trod_bool Tryz.underlying4 h0
  refine ⟨i,r,s,?_,k1⟩
  rw [hc] at e2
  rw [e2]
  cases e0
  rfl
set_option maxRecDepth 100000 in
theorem open_p3 {r:Reach} {b0:Nat} {v:Value} {d:DataW H} {p:List MemPlace} (hv:Value.okWide Tryz.prog w r b0 81 v) (h:DataW.Trod enc Tryz.prog w base spare held 81 v d p) :
  ∃ (i j k:Bool) (a b c d e f:R4),v=.agg ((.bool i::(a.V++b.V))++(.bool j::(c.V++d.V))++(.bool k::(e.V++f.V))).toArray∧(a.ok∧b.ok)∧(c.ok∧d.ok)∧e.ok∧f.ok:=by
 obtain ⟨cs,rfl,hsz⟩:=okWide_array Tryz.underlying81 hv
 obtain ⟨fuel,hf⟩:=h
 obtain ⟨l⟩:=cs
 obtain ⟨xs,n,rfl,_,hlen,hxl,hg⟩:=DataW.trod_array Tryz.underlying81 hf
 simp only [Value.cells] at hlen hg
 rw [cellsOf_p3] at hlen
 rw [cellsOf_point] at hg
 have key:∀ i,i<3→∃ (j:Bool) (r s:R4),(l.drop (i*9)).take 9=.bool j::(r.V++s.V)∧r.ok∧s.ok:=fun i hi=>by
  have hx:xs[i]?=some (xs[i]'(by rw [hxl]; exact hi)):=List.getElem?_eq_getElem _
  exact trod_point ((hg i hi).trans hx)
 obtain ⟨i0,a0,b0,e0,k0⟩:=key 0 (by decide)
 obtain ⟨i1,a1,b1,e1,k1⟩:=key 1 (by decide)
 obtain ⟨i2,a2,b2,e2,k2⟩:=key 2 (by decide)
 refine ⟨i0,i1,i2,a0,b0,a1,b1,a2,b2,?_,k0,k1,k2⟩
 have c0:=chunk l (0*9) 9
 have c1:=chunk l (1*9) 9
 have c2:=chunk l (2*9) 9
 rw [e2,List.drop_of_length_le (show l.length≤2*9+9 by omega),List.append_nil] at c2
 rw [e1,show 1*9+9=2*9 by rfl,c2] at c1
 rw [e0,show 0*9+9=1*9 by rfl,c1,show 0*9=0 by rfl,List.drop_zero] at c0
 rw [c0]
 simp only [List.append_assoc,List.cons_append]
end
section
variable {H:Type} {enc:TypeId × Value→H} {w:World} {base:Nat} {spare:Nat→Bool} {held:Bool}
set_option maxRecDepth 100000 in
theorem trod_mob {fuel:Nat} {cs:List Value} {x:DataW H × List MemPlace} (h:DataW.trod enc Tryz.prog w base spare held fuel 48 cs=some x) :
  ∃ (a b c d e f g k:R4) (t:Bool),cs=a.V++b.V++c.V++d.V++e.V++f.V++g.V++k.V++[Value.bool t]∧a.ok∧b.ok∧c.ok∧d.ok∧e.ok∧f.ok∧g.ok∧k.ok:=by
 obtain ⟨xs,n,rfl,_,hlen,hxl,hf⟩:=DataW.trod_struct Tryz.underlying48 h
 rw [cellsOf_mob] at hlen
 have hx0:xs[0]?=some (xs[0]'(by rw [hxl]; decide)):=List.getElem?_eq_getElem _
 have hx1:xs[1]?=some (xs[1]'(by rw [hxl]; decide)):=List.getElem?_eq_getElem _
 have hx2:xs[2]?=some (xs[2]'(by rw [hxl]; decide)):=List.getElem?_eq_getElem _
 have hx3:xs[3]?=some (xs[3]'(by rw [hxl]; decide)):=List.getElem?_eq_getElem _
 have hx4:xs[4]?=some (xs[4]'(by rw [hxl]; decide)):=List.getElem?_eq_getElem _
 have h0:DataW.trod enc Tryz.prog w base spare held n 46 ((cs.drop 0).take (Tryz.prog.cellsOf 46))=some _:=(hf 0 _ rfl).trans hx0
 have h1:DataW.trod enc Tryz.prog w base spare held n 46 ((cs.drop 8).take (Tryz.prog.cellsOf 46))=some _:=(hf 1 _ rfl).trans hx1
 have h2:DataW.trod enc Tryz.prog w base spare held n 46 ((cs.drop 16).take (Tryz.prog.cellsOf 46))=some _:=(hf 2 _ rfl).trans hx2
 have h3:DataW.trod enc Tryz.prog w base spare held n 46 ((cs.drop 24).take (Tryz.prog.cellsOf 46))=some _:=(hf 3 _ rfl).trans hx3
 have h4:DataW.trod enc Tryz.prog w base spare held n 4 ((cs.drop 32).take (Tryz.prog.cellsOf 4))=some _:=(hf 4 _ rfl).trans hx4
 rw [zH3] at h0 h1 h2 h3
 rw [cellsOf_bool] at h4
 obtain ⟨a0,b0,e0,k0⟩:=zV0 h0
 obtain ⟨a1,b1,e1,k1⟩:=zV0 h1
 obtain ⟨a2,b2,e2,k2⟩:=zV0 h2
 obtain ⟨a3,b3,e3,k3⟩:=zV0 h3
 obtain ⟨t,e4⟩:∃ t,cs.drop 32=[Value.bool t]:=by
  match hc:(cs.drop 32),(show (cs.drop 32).length=1 by rw [List.length_drop]; omega) with
  | [a],_ =>
   rw [hc] at h4
   obtain ⟨i,e0,_⟩:=DataW.trod_bool Tryz.underlying4 h4
   refine ⟨i,?_⟩
   cases e0
   rfl
 refine ⟨a0,b0,a1,b1,a2,b2,a3,b3,t,?_,k0.1,k0.2,k1.1,k1.2,k2.1,k2.2,k3.1,k3.2⟩
 have c0:=chunk cs 0 8
 have c1:=chunk cs (0+8) 8
 have c2:=chunk cs (0+8+8) 8
 have c3:=chunk cs (0+8+8+8) 8
 rw [e3,show 0+8+8+8+8=32 by rfl,e4] at c3
 rw [e2,c3] at c2
 rw [e1,c2] at c1
 rw [e0,c1,List.drop_zero] at c0
 rw [c0]
 simp only [List.append_assoc]
set_option maxRecDepth 100000 in
theorem open_mob {r:Reach} {b0:Nat} {v:Value} {d:DataW H} {p:List MemPlace} (hv:Value.okWide Tryz.prog w r b0 48 v) (h:DataW.Trod enc Tryz.prog w base spare held 48 v d p) :
  ∃ (x0 y0 x1 y1 x2 y2 x3 y3:R4) (t:Bool),v=.agg (x0.V++y0.V++x1.V++y1.V++x2.V++y2.V++x3.V++y3.V++[Value.bool t]).toArray∧x0.ok∧y0.ok∧x1.ok∧y1.ok∧x2.ok∧y2.ok∧x3.ok∧y3.ok:=by
 obtain ⟨cs,rfl,hsz⟩:=okWide_struct Tryz.underlying48 hv
 obtain ⟨fuel,hf⟩:=h
 obtain ⟨l⟩:=cs
 obtain ⟨a,b,c,d,e,f,g,k,t,rfl,hh⟩:=trod_mob hf
 exact ⟨a,b,c,d,e,f,g,k,t,rfl,hh⟩
end
end Go.Proofs.YtbepimnlleilfaaGreat
end
