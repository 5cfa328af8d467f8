/- MvP, MvS, MvV, MvX, MvY, MvZ, MvU, Open, OpnB, OpnM, OpnT. -/
import Derived.ProofKit
import Derived.OpenShut
import Derived.ShutString
import Derived.ChangeOld
import Derived.Below
import Derived.Test.YtpccljaooghafaaGreatPk14
set_option linter.unnecessarySimpa false
set_option linter.unusedVariables false
set_option linter.unusedSimpArgs false
section
namespace Go.Proofs.YtpccljaooghafaaGreat.Y
open Go Go.RowKit
set_option maxRecDepth 100000
def PtsE (f g:RQ):Prop:=ValT ptsF f g (ptNil 7)∨ValT ptsF f g (ptNil 230)∨ValT ptsF f g (ptNil 4)∨(∃ A,(FitP A∧OnB f g A)∧OwnT ptsF f g (pr1 A) ptR1)∨∃ A B,((FitP A∧OnB f g A)∧FitP B∧OnB f g B)∧OwnT ptsF f g (pr2 A B) ptR2
structure CutV (f g l k:RQ):Prop where
 pNo:∀ {n d a b:Nat},RootB (cuX l k) n d a b→decide (Rat.divInt a b*Rat.divInt a b=cuX l k)=false→ValT ptsF f g (ptNil 230)
 pA:∀ {n d a b:Nat},RootB (cuX l k) n d a b→decide (Rat.divInt a b*Rat.divInt a b=cuX l k)=true→¬ FitG (ctP l k (Rat.divInt a b))→GSz KB (ctP l k (Rat.divInt a b))→ValT ptsF f g (ptNil 4)
 pB:∀ {n d a b:Nat},RootB (cuX l k) n d a b→decide (Rat.divInt a b*Rat.divInt a b=cuX l k)=true→FitP (.fin (ctP l k (Rat.divInt a b)))→¬ FitG (ctQ l k (Rat.divInt a b))→GSz KB (ctQ l k (Rat.divInt a b))→ValT ptsF f g (ptNil 4)
 pSw:∀ {n d a b:Nat},RootB (cuX l k) n d a b→decide (Rat.divInt a b*Rat.divInt a b=cuX l k)=true→FitP (.fin (ctP l k (Rat.divInt a b)))→FitP (.fin (ctQ l k (Rat.divInt a b)))→ptB (.fin (ctQ l k (Rat.divInt a b))) (.fin (ctP l k (Rat.divInt a b)))=false→decide (ordI (.fin (ctQ l k (Rat.divInt a b))) (.fin (ctP l k (Rat.divInt a b)))<0)=true→OwnT ptsF f g (pr2 (.fin (ctQ l k (Rat.divInt a b))) (.fin (ctP l k (Rat.divInt a b)))) ptR2
 pIn:∀ {n d a b:Nat},RootB (cuX l k) n d a b→decide (Rat.divInt a b*Rat.divInt a b=cuX l k)=true→FitP (.fin (ctP l k (Rat.divInt a b)))→FitP (.fin (ctQ l k (Rat.divInt a b)))→ptB (.fin (ctQ l k (Rat.divInt a b))) (.fin (ctP l k (Rat.divInt a b)))=false→decide (ordI (.fin (ctQ l k (Rat.divInt a b))) (.fin (ctP l k (Rat.divInt a b)))<0)=false→OwnT ptsF f g (pr2 (.fin (ctP l k (Rat.divInt a b))) (.fin (ctQ l k (Rat.divInt a b)))) ptR2
theorem cut_prog {f g l k:RQ} (ha:l.a=0) (h0:k.a≠0) (hn:cuN l≠0) (hX:0<cuX l k) (sl:RSz KL l) (sk:RSz KK k) (hon:∀ z,valQ l z=0→valQ k z=0→OnB f g (.fin z)) (W:CutV f g l k):PtsE f g:=by
 have sX:=dX_sz sl sk h0 hn
 obtain ⟨a,b,hR⟩:=rootB_of (Rat.num_nonneg.2 (by grind)) sX
 cases ht:decide (Rat.divInt a b*Rat.divInt a b=cuX l k) with
 | false=>exact .inr (.inl (W.pNo hR ht))
 | true =>
  have htt:=of_decide_eq_true ht
  have st:=rb_szt hR sX htt
  have hz:=ct_sz (sl.mono (by decide)) (sk.mono (by decide)) h0 hn st (by decide)
  have ht0:Rat.divInt a b≠0:=by
   intro e
   rw [e,Rat.mul_zero] at htt
   rw [← htt] at hX
   exact absurd hX (by decide)
  have hpq:ctP l k (Rat.divInt a b)≠ctQ l k (Rat.divInt a b):=two_ne hn ht0
  have hne:ptB (.fin (ctQ l k (Rat.divInt a b))) (.fin (ctP l k (Rat.divInt a b)))=false:=by
   cases e:ptB (.fin (ctQ l k (Rat.divInt a b))) (.fin (ctP l k (Rat.divInt a b))) with
   | false=>rfl
   | true=>exact absurd (Pt.fin.inj (ptB_iff.1 e)).symm hpq
  have oP:=cut_onP ha h0 hn htt
  have oQ:=cut_onQ ha h0 hn htt
  have o1:=hon _ oP.1 oP.2
  have o2:=hon _ oQ.1 oQ.2
  by_cases f1:FitG (ctP l k (Rat.divInt a b))
  · by_cases f2:FitG (ctQ l k (Rat.divInt a b))
    · cases ho:decide (ordI (.fin (ctQ l k (Rat.divInt a b))) (.fin (ctP l k (Rat.divInt a b)))<0) with
      | true=>exact .inr (.inr (.inr (.inr ⟨.fin (ctQ l k (Rat.divInt a b)),.fin (ctP l k (Rat.divInt a b)),⟨⟨f2,o2⟩,f1,o1⟩,W.pSw hR ht f1 f2 hne ho⟩)))
      | false=>exact .inr (.inr (.inr (.inr ⟨.fin (ctP l k (Rat.divInt a b)),.fin (ctQ l k (Rat.divInt a b)),⟨⟨f1,o1⟩,f2,o2⟩,W.pIn hR ht f1 f2 hne ho⟩)))
    · exact .inr (.inr (.inl (W.pB hR ht f1 f2 hz.2)))
  · exact .inr (.inr (.inl (W.pA hR ht f1 hz.1)))
section
variable {f g:RQ} (hf:MayC f) (hg:MayC g) (sf:RSz 60 f) (sg:RSz 60 g) (hs:eqRone f g=false)
section
variable (hc:cmpQ (fsq f g) one1 = -1)
include hf hg sf sg hs hc in
theorem cutv_one (hA:axAt f g .one) (h0:g.a≠0) (hn:cuN f≠0):CutV f g f g :=
 { pNo:=fun h ht=>(sPtNoOne hf hg hs hc hA (sf.mono (by decide)) (sg.mono (by decide)) h0 hn h ht).ok
   pA:=fun h ht hP hz=>(sPtBigAOne hf hg hs hc hA (sf.mono (by decide)) (sg.mono (by decide)) h0 hn h ht hP hz).ok
   pB:=fun h ht hP hQ hz=>(sPtBigBOne hf hg hs hc hA (sf.mono (by decide)) (sg.mono (by decide)) h0 hn h ht hP hQ hz).ok
   pSw:=fun h ht hP hQ hne hb=>(oPtOneSw hf hg hs hc hA (sf.mono (by decide)) (sg.mono (by decide)) h0 hn h ht hP hQ hne hb).ok
   pIn:=fun h ht hP hQ hne hb=>(oPtOneIn hf hg hs hc hA (sf.mono (by decide)) (sg.mono (by decide)) h0 hn h ht hP hQ hne hb).ok }
include hf hg sf sg hs hc in
theorem cutv_two (hA:axAt f g .two) (h0:f.a≠0) (hn:cuN g≠0):CutV f g g f :=
 { pNo:=fun h ht=>(sPtNoTwo hf hg hs hc hA (sg.mono (by decide)) (sf.mono (by decide)) h0 hn h ht).ok
   pA:=fun h ht hP hz=>(sPtBigATwo hf hg hs hc hA (sg.mono (by decide)) (sf.mono (by decide)) h0 hn h ht hP hz).ok
   pB:=fun h ht hP hQ hz=>(sPtBigBTwo hf hg hs hc hA (sg.mono (by decide)) (sf.mono (by decide)) h0 hn h ht hP hQ hz).ok
   pSw:=fun h ht hP hQ hne hb=>(oPtTwoSw hf hg hs hc hA (sg.mono (by decide)) (sf.mono (by decide)) h0 hn h ht hP hQ hne hb).ok
   pIn:=fun h ht hP hQ hne hb=>(oPtTwoIn hf hg hs hc hA (sg.mono (by decide)) (sf.mono (by decide)) h0 hn h ht hP hQ hne hb).ok }
include hf hg sf sg hs hc in
theorem cutv_none (hA:axAt f g .none) (hw:wtB (axQ f g)=false) (hw2:decide ((fpr (axQ f g) (axQ f g)).num.sign≤0)=false) (h0:f.a≠0) (hn:cuN (axQ f g)≠0):CutV f g (axQ f g) f :=
 have sa:RSz 123 (axQ f g):=ax60 sf sg
 { pNo:=fun h ht=>(sPtNoNone hf hg hs hc hA hw2 (sa.mono (by decide)) (sf.mono (by decide)) h0 hn h ht).ok
   pA:=fun h ht hP hz=>(sPtBigANone hf hg hs hc hA hw2 (sa.mono (by decide)) (sf.mono (by decide)) h0 hn h ht hP hz).ok
   pB:=fun h ht hP hQ hz=>(sPtBigBNone hf hg hs hc hA hw2 (sa.mono (by decide)) (sf.mono (by decide)) h0 hn h ht hP hQ hz).ok
   pSw:=fun h ht hP hQ hne hb=>(oPtNoneSw hf hg hs hc hA hw2 (sa.mono (by decide)) (sf.mono (by decide)) h0 hn h ht hP hQ hne hb).ok
   pIn:=fun h ht hP hQ hne hb=>(oPtNoneIn hf hg hs hc hA hw2 (sa.mono (by decide)) (sf.mono (by decide)) h0 hn h ht hP hQ hne hb).ok }
end
include hf hg sf sg hs in
theorem pts_any:PtsE f g:=by
 rcases cmpQ_cases (fsq f g) one1 with hc | hc | hc
 · have pf:=may_pos hf
   have pg:=may_pos hg
   have hgp:=gram_pos pf pg hc
   obtain ⟨k,hA⟩:=axAt_all f g
   cases k with
   | both =>
    have a1:=of_decide_eq_true hA.1
    have a2:=of_decide_eq_true hA.2
    have hd:lnD f g≠0:=by
     intro e
     have h:=gram_lines a1 a2
     rw [e,Rat.mul_zero] at h
     grind
    have ho:=ln_on a1 a2 hd
    by_cases hz:FitG (lnZ f g)
    · exact .inr (.inr (.inr (.inr ⟨.fin (lnZ f g),.inf,⟨⟨hz,ho.1⟩,fit_inf,ho.2⟩,(oPtLn hf hg (sf.mono (by decide)) (sg.mono (by decide)) hs hc hA hd hz).ok⟩)))
    · exact .inr (.inr (.inl (sPtLnNo hf hg (sf.mono (by decide)) (sg.mono (by decide)) hs hc hA hd hz).ok))
   | one =>
    have a1:=of_decide_eq_true hA.1
    have a2:=of_decide_eq_false hA.2
    obtain ⟨hn,hX⟩:=cross_line a1 a2 pf hgp
    exact cut_prog (l:=f) (k:=g) a1 a2 hn hX (sf.mono (by decide)) (sg.mono (by decide)) (fun z h1 h2=>⟨h1,h2⟩) (cutv_one hf hg sf sg hs hc hA a2 hn)
   | two =>
    have a1:=of_decide_eq_false hA.1
    have a2:=of_decide_eq_true hA.2
    obtain ⟨hn,hX⟩:=cross_line (l:=g) (k:=f) a2 a1 pg (by rw [fpr_comm g f,Rat.mul_comm (fpr g g)]; exact hgp)
    exact cut_prog (l:=g) (k:=f) a2 a1 hn hX (sg.mono (by decide)) (sf.mono (by decide)) (fun z h1 h2=>⟨h2,h1⟩) (cutv_two hf hg sf sg hs hc hA a1 hn)
   | none =>
    have a1:=of_decide_eq_false hA.1
    have a2:=of_decide_eq_false hA.2
    have haa:f.a=g.a:=by rw [may_a hf a1,may_a hg a2]
    obtain ⟨hp,hn,hX⟩:=cross_two haa a1 hgp
    have hw2:decide ((fpr (axQ f g) (axQ f g)).num.sign≤0)=false:=by
     have h1:0<(fpr (axQ f g) (axQ f g)).num:=mpNum_pos.2 hp
     rw [Int.sign_eq_one_of_pos h1]
     rfl
    have hw:wtB (axQ f g)=false:=by
     have:=hw2
     rw [rpow_fpr] at this
     exact this
    exact cut_prog (l:=axQ f g) (k:=f) (ax_a haa) a1 hn hX ((ax60 sf sg).mono (by decide)) (sf.mono (by decide)) (fun z h1 h2=>⟨h2,by
     have h3:=ax_val f g z
     rw [h1,h2] at h3
     show valQ g z=0
     grind⟩) (cutv_none hf hg sf sg hs hc hA hw hw2 a1 hn)
 · cases hi:decide ((tcQ f g).a=0) with
   | true=>exact .inr (.inr (.inr (.inl ⟨.inf,⟨fit_inf,tc_inf hf hg hs hc (of_decide_eq_true hi)⟩,(oPtTInf hf hg (sf.mono (by decide)) (sg.mono (by decide)) hs hc hi).ok⟩)))
   | false =>
    by_cases hz:FitG (cenQ (tcQ f g))
    · exact .inr (.inr (.inr (.inl ⟨.fin (cenQ (tcQ f g)),⟨hz,tc_fin hf hg hc (of_decide_eq_false hi)⟩,(oPtTFin hf hg (sf.mono (by decide)) (sg.mono (by decide)) hs hc hi hz).ok⟩)))
    · exact .inr (.inr (.inl (sPtTNo hf hg (sf.mono (by decide)) (sg.mono (by decide)) hs hc hi hz).ok))
 · exact .inl (sPtsApart hf hg hs hc).ok
end
theorem pts_all {f g:RQ} (hf:MayC f) (hg:MayC g) (sf:RSz 60 f) (sg:RSz 60 g):PtsE f g:=by
 cases hs:eqRone f g with
 | true=>exact .inl (sPtsSame hf hg hs rfl).ok
 | false=>exact pts_any hf hg sf sg hs
structure NSpec (P:Program) where
 f:FuncId
 en:Enters P f
 args:List SV
 src:Ob
 res:SV
 news:List Thing
 ok:∀ β w,src.holds β w (β 0)→Calls P f (args.map (SV.den β)).toArray w fun e w'=>∃ xs:List Pl,(∀ x∈xs,∀ c,x.F c→w.heap.size≤c)∧e=.returned (res.den (extE β 1 xs))∧newHold w' news xs∧Below w.heap.size w w'
 cl:(src.of (fun _=>false)&&args.all (SV.of fun k=>Nat.beq k 0)&&res.of fun k=>Nat.ble 1 k&&Nat.blt k (1+news.length))=true
def NSpec.e {P:Program} (S:NSpec P):Ev P:=.dyn (fun o _ _=>isCallB o) fun _ xs ob=>lit (bkOfY xs) fun i=>lit ob.length fun n =>
 .call S.f S.en (fun β=>(S.args.map (SV.den fun _=>β i)).toArray) [(i,S.src)] n (S.res.ren fun k=>n+(k-1)) S.news (fun β w h=>by
  have hc:=S.cl
  simp only [Bool.and_eq_true] at hc
  have h1:S.src.holds β w (β i):=h _ (List.mem_singleton.2 rfl)
  refine (S.ok (fun _=>β i) w (Ob.holds_congr (q:=fun _=>false) (fun k hk=>by cases hk) _ hc.1.1 h1)).mono fun e w' ⟨xs,k1,k2,k3,k4⟩=>⟨xs,fun x hx c hc=>.inl (k1 x hx c hc),?_,k3,k4⟩
  rw [k2,SV.den_ren]
  congr 1
  refine SV.den_congr (fun k hk=>?_) _ hc.2
  have hlen:=(newHold_get k3).1
  rw [Bool.and_eq_true,Nat.ble_eq,Nat.blt_eq] at hk
  have h5:k-1<xs.length:=by omega
  rw [extE_in (List.getElem?_eq_getElem h5)]
  have:=extE_in (β:=fun _=>β i) (n:=1) (List.getElem?_eq_getElem h5)
  rw [show 1+(k-1)=k by omega] at this
  exact this)
def RSpec.eS {P:Program} (S:RSpec P):Ev P:=.dyn (fun o _ _=>isCallB o) fun _ xs ob=>lit (bkOf xs) fun i=>lit ob.length fun n =>
 .call S.f S.en (fun β=>(S.args.map (SV.den fun _=>β i)).toArray) [(i,S.src)] n (S.res.ren fun _=>i) [] (fun β w h=>by
  have hc:=S.cl
  simp only [Bool.and_eq_true] at hc
  obtain ⟨c1,c2,c3⟩:=hc
  have h1:S.src.holds β w (β i):=h _ (List.mem_singleton.2 rfl)
  refine (S.ok (fun _=>β i) w (Ob.holds_congr (q:=fun _=>false) (fun k hk=>by cases hk) _ c1 h1)).mono fun e w' ⟨k1,k2⟩=>⟨[],(fun _ h=>by cases h),?_,trivial,k2⟩
  rw [k1,extE_nil,SV.den_ren])
theorem row_pt {cur:Array Value} {n:Nat} {c0:Value} {b1:Bool} {r:List Value} (h:cur.toList.take n=c0::.bool b1::r):∃ l:List Value,cur=(c0::.bool b1::l).toArray:=by
 refine ⟨r++cur.toList.drop n,Array.ext' ?_⟩
 have h2:=List.take_append_drop n cur.toList
 rw [h] at h2
 exact h2.symm
abbrev pl1 (p0:Pt):List Cd:=plCd p0
abbrev rs1A:List SV:=[.one (.c (.b (.s 0 0 1 1)))]
def rs1O (p0:Pt):List (Nat × Ob):=[(6,.row [.b (.v (.bool (pI p0))),.b (.z 2 0),.b (.z 3 0)] PLT 1 3),(2,(ratM (pG p0).re).ob),(3,(ratM (pG p0).im).ob)]
noncomputable def rs1E {p0:Pt} (hp0:FitP p0):List (Ev Tryz.prog):=[(sSpotP p0 hp0).e,.app appP]
theorem rs1_eqs {p0:Pt} (hp0:FitP p0) (β:Env):(allS Tryz.prog Tryz.f278 rs1A [(pr1 p0)] (rs1E hp0) [] 800 (.tup [.c (.b (.r 6 1)),.c (.b (.v (.bool true)))]) (rs1O p0) β).map Prod.fst=(allS Tryz.prog Tryz.f278 rs1A [(pr1 p0)] (rs1E hp0) [] 800 (.tup [.c (.b (.r 6 1)),.c (.b (.v (.bool true)))]) (rs1O p0) β).map Prod.snd:=by kernel_rfl
theorem rspots1_ok {p0:Pt} (hp0:FitP p0) (β:Env) (w:World) (hh:(pr1 p0).holds β w (β 0)) :
  Calls Tryz.prog 278 (rs1A.map (SV.den β)).toArray w fun e u=>∃ xs:List Pl,(∀ x∈xs,∀ c,x.F c→w.heap.size≤c)∧e=.returned ((SV.tup [.c (.b (.y 1 3 1)),.c (.b (.v (.bool true)))]).den (extE β 1 xs))∧newHold u [rowT PLT (pl1 p0)] xs∧Below w.heap.size w u:=by
 refine (sx (P:=Tryz.prog) rs1A [(pr1 p0)] (rs1E hp0) [] 800 (.tup [.c (.b (.r 6 1)),.c (.b (.v (.bool true)))]) (rs1O p0) Tryz.func278 hmA (fun β=>ok_of_maps (rs1_eqs hp0 β)) (by kernel_rfl) (by kernel_rfl) β w (fun k o ho=>?_)).mono ?_
 · cases k with
   | zero=>simp only [List.getElem?_cons_zero] at ho; obtain rfl:=Option.some.inj ho; exact hh
   | succ k=>simp at ho
 · rintro e u ⟨β',q',obj,e1,rfl,e2,e4,e5,g⟩
   obtain ⟨hone0,cur0,hcur0,hcl0,hn0,hcm0,hsz0,htake0⟩:=hh
   obtain ⟨l0,hl0⟩:=row_pt htake0
   have hnew:∀ y∈rs1O p0,∀ c,(β' y.1).F c→c≠(β 0).b→w.heap.size≤c:=fun y hy c hc hne=>by
    rcases e4 y hy c hc with h | ⟨i,hi,h⟩
    · exact h
    · obtain rfl:i=0:=by simp only [List.length_singleton] at hi; omega
      exact absurd ((hone0.1 c).1 h) hne
   have hu:u.heap[(β 0).b]?=some (.cells cur0 PTT (0,0)):=by rw [g.bel.block _ (heap_lt hcur0)]; exact hcur0
   rw [hl0] at hu
   have hrat:∀ (k:Nat) (x:Rat),(k,(ratM x).ob)∈rs1O p0→OR0 x u (β' k)∧∀ c,(β' k).F c→w.heap.size≤c:=fun k x hk=>by
    have h:OR0 x u (β' k):=e5 _ hk
    refine ⟨h,fun c hc=>?_⟩
    rcases h with ⟨_,h2,_⟩ | ⟨b,hb,hx⟩
    · exact absurd hc (h2 c)
    · have ec:=(hb.2 c).1 hc
      subst ec
      refine hnew _ hk c hc fun e=>?_
      rw [e] at hx
      exact pt_no_rat hu hx
   obtain ⟨o2,n2⟩:=hrat 2 (pG p0).re (by simp [rs1O])
   obtain ⟨o3,n3⟩:=hrat 3 (pG p0).im (by simp [rs1O])
   obtain ⟨hone,cur,hcur,hcl,hn,hcm,hsz,htake⟩:=e5 (6,.row [.b (.v (.bool (pI p0))),.b (.z 2 0),.b (.z 3 0)] PLT 1 3) (by simp [rs1O])
   have hbR:w.heap.size≤(β' 6).b:=hnew _ (by simp [rs1O]) _ ((hone.1 _).2 rfl) fun e=>by
    rw [e,hu] at hcur
    have:=(Obj.cells.inj (Option.some.inj hcur)).2.1
    exact absurd this (by decide)
   refine ⟨[⟨(β' 6).b,fun i=>match i with | 1=>(β' 2).v 0 | 2=>(β' 3).v 0 | 3=>some ⟨(β' 6).b,0,none⟩ | _=>none,fun _=>(β' 6).c 0,fun c=>c=(β' 6).b∨(β' 2).F c∨(β' 3).F c,fun _=>undef⟩],fun x hx c hc=>?_,rfl,⟨⟨⟨.inl rfl,cur,hcur,?_⟩,⟨⟨trivial,or_cd o2 rfl fun c hc=>.inr (.inl hc),or_cd o3 rfl fun c hc=>.inr (.inr (hc)),trivial⟩,rfl⟩,fun c hc=>?_⟩,trivial⟩,g.bel⟩
   · obtain rfl:=List.mem_singleton.1 hx
     rcases hc with rfl | hc | hc
     · exact hbR
     · exact n2 c hc
     · exact n3 c hc
   · have:(pl1 p0).length=1*3:=rfl
     rw [this,htake]
     rfl
   · rcases hc with rfl | hc | hc
     · exact heap_lt hcur
     · exact (or_stable _).lt u _ o2 c hc
     · exact (or_stable _).lt u _ o3 c hc
noncomputable def sRSpots1 {p0:Pt} (hp0:FitP p0):NSpec Tryz.prog :=
 ⟨278,Tryz.call278,rs1A,pr1 p0,.tup [.c (.b (.y 1 3 1)),.c (.b (.v (.bool true)))],[rowT PLT (pl1 p0)],rspots1_ok hp0,by kernel_rfl⟩
abbrev rs2A:List SV:=[.one (.c (.b (.s 0 0 2 2)))]
def rs2O (p0 p1:Pt):List (Nat × Ob):=[(12,.row [.b (.v (.bool (pI p0))),.b (.z 2 0),.b (.z 3 0),.b (.v (.bool (pI p1))),.b (.z 8 0),.b (.z 9 0)] PLT 2 3),(2,(ratM (pG p0).re).ob),(3,(ratM (pG p0).im).ob),(8,(ratM (pG p1).re).ob),(9,(ratM (pG p1).im).ob)]
noncomputable def rs2E {p0 p1:Pt} (hp0:FitP p0) (hp1:FitP p1):List (Ev Tryz.prog):=[(sSpotP p0 hp0).e,.app appP,(sSpotP p1 hp1).e,.app appP]
theorem rs2_eqs {p0 p1:Pt} (hp0:FitP p0) (hp1:FitP p1) (β:Env):(allS Tryz.prog Tryz.f278 rs2A [(pr2 p0 p1)] (rs2E hp0 hp1) [] 800 (.tup [.c (.b (.r 12 2)),.c (.b (.v (.bool true)))]) (rs2O p0 p1) β).map Prod.fst=(allS Tryz.prog Tryz.f278 rs2A [(pr2 p0 p1)] (rs2E hp0 hp1) [] 800 (.tup [.c (.b (.r 12 2)),.c (.b (.v (.bool true)))]) (rs2O p0 p1) β).map Prod.snd:=by kernel_rfl
theorem rspots2_ok {p0 p1:Pt} (hp0:FitP p0) (hp1:FitP p1) (β:Env) (w:World) (hh:(pr2 p0 p1).holds β w (β 0)) :
  Calls Tryz.prog 278 (rs2A.map (SV.den β)).toArray w fun e u=>∃ xs:List Pl,(∀ x∈xs,∀ c,x.F c→w.heap.size≤c)∧e=.returned ((SV.tup [.c (.b (.y 1 6 2)),.c (.b (.v (.bool true)))]).den (extE β 1 xs))∧newHold u [rowT PLT (pl2 p0 p1)] xs∧Below w.heap.size w u:=by
 refine (sx (P:=Tryz.prog) rs2A [(pr2 p0 p1)] (rs2E hp0 hp1) [] 800 (.tup [.c (.b (.r 12 2)),.c (.b (.v (.bool true)))]) (rs2O p0 p1) Tryz.func278 hmA (fun β=>ok_of_maps (rs2_eqs hp0 hp1 β)) (by kernel_rfl) (by kernel_rfl) β w (fun k o ho=>?_)).mono ?_
 · cases k with
   | zero=>simp only [List.getElem?_cons_zero] at ho; obtain rfl:=Option.some.inj ho; exact hh
   | succ k=>simp at ho
 · rintro e u ⟨β',q',obj,e1,rfl,e2,e4,e5,g⟩
   obtain ⟨hone0,cur0,hcur0,hcl0,hn0,hcm0,hsz0,htake0⟩:=hh
   obtain ⟨l0,hl0⟩:=row_pt htake0
   have hnew:∀ y∈rs2O p0 p1,∀ c,(β' y.1).F c→c≠(β 0).b→w.heap.size≤c:=fun y hy c hc hne=>by
    rcases e4 y hy c hc with h | ⟨i,hi,h⟩
    · exact h
    · obtain rfl:i=0:=by simp only [List.length_singleton] at hi; omega
      exact absurd ((hone0.1 c).1 h) hne
   have hu:u.heap[(β 0).b]?=some (.cells cur0 PTT (0,0)):=by rw [g.bel.block _ (heap_lt hcur0)]; exact hcur0
   rw [hl0] at hu
   have hrat:∀ (k:Nat) (x:Rat),(k,(ratM x).ob)∈rs2O p0 p1→OR0 x u (β' k)∧∀ c,(β' k).F c→w.heap.size≤c:=fun k x hk=>by
    have h:OR0 x u (β' k):=e5 _ hk
    refine ⟨h,fun c hc=>?_⟩
    rcases h with ⟨_,h2,_⟩ | ⟨b,hb,hx⟩
    · exact absurd hc (h2 c)
    · have ec:=(hb.2 c).1 hc
      subst ec
      refine hnew _ hk c hc fun e=>?_
      rw [e] at hx
      exact pt_no_rat hu hx
   obtain ⟨o2,n2⟩:=hrat 2 (pG p0).re (by simp [rs2O])
   obtain ⟨o3,n3⟩:=hrat 3 (pG p0).im (by simp [rs2O])
   obtain ⟨o8,n8⟩:=hrat 8 (pG p1).re (by simp [rs2O])
   obtain ⟨o9,n9⟩:=hrat 9 (pG p1).im (by simp [rs2O])
   obtain ⟨hone,cur,hcur,hcl,hn,hcm,hsz,htake⟩:=e5 (12,.row [.b (.v (.bool (pI p0))),.b (.z 2 0),.b (.z 3 0),.b (.v (.bool (pI p1))),.b (.z 8 0),.b (.z 9 0)] PLT 2 3) (by simp [rs2O])
   have hbR:w.heap.size≤(β' 12).b:=hnew _ (by simp [rs2O]) _ ((hone.1 _).2 rfl) fun e=>by
    rw [e,hu] at hcur
    have:=(Obj.cells.inj (Option.some.inj hcur)).2.1
    exact absurd this (by decide)
   refine ⟨[⟨(β' 12).b,fun i=>match i with | 1=>(β' 2).v 0 | 2=>(β' 3).v 0 | 4=>(β' 8).v 0 | 5=>(β' 9).v 0 | 6=>some ⟨(β' 12).b,0,none⟩ | _=>none,fun _=>(β' 12).c 0,fun c=>c=(β' 12).b∨(β' 2).F c∨(β' 3).F c∨(β' 8).F c∨(β' 9).F c,fun _=>undef⟩],fun x hx c hc=>?_,rfl,⟨⟨⟨.inl rfl,cur,hcur,?_⟩,⟨⟨trivial,or_cd o2 rfl fun c hc=>.inr (.inl hc),or_cd o3 rfl fun c hc=>.inr (.inr (.inl hc)),trivial,or_cd o8 rfl fun c hc=>.inr (.inr (.inr (.inl hc))),or_cd o9 rfl fun c hc=>.inr (.inr (.inr (.inr (hc)))),trivial⟩,rfl⟩,fun c hc=>?_⟩,trivial⟩,g.bel⟩
   · obtain rfl:=List.mem_singleton.1 hx
     rcases hc with rfl | hc | hc | hc | hc
     · exact hbR
     · exact n2 c hc
     · exact n3 c hc
     · exact n8 c hc
     · exact n9 c hc
   · have:(pl2 p0 p1).length=2*3:=rfl
     rw [this,htake]
     rfl
   · rcases hc with rfl | hc | hc | hc | hc
     · exact heap_lt hcur
     · exact (or_stable _).lt u _ o2 c hc
     · exact (or_stable _).lt u _ o3 c hc
     · exact (or_stable _).lt u _ o8 c hc
     · exact (or_stable _).lt u _ o9 c hc
noncomputable def sRSpots2 {p0 p1:Pt} (hp0:FitP p0) (hp1:FitP p1):NSpec Tryz.prog :=
 ⟨278,Tryz.call278,rs2A,pr2 p0 p1,.tup [.c (.b (.y 1 6 2)),.c (.b (.v (.bool true)))],[rowT PLT (pl2 p0 p1)],rspots2_ok hp0 hp1,by kernel_rfl⟩
section
variable {r:RQ} {p:Pt} (h:RSz KC r) (hp:FitP p) (h1:(!((sidQ r p).num.sign==0))=false)
noncomputable def sIdxOne:OSpec Tryz.prog :=
 OSpec.auto Tryz.call374 [.one (.c (.b (.y 0 3 1))),onF] (onO r (pl1 p)) (.one (nI' (-1))) []
  [dIdxP PLT (pl1 p),dPlace PLT (pl1 p),(sOn1 h hp h1).e] [] 800 Tryz.func374 hmA (by kernel_rfl) (fun β=>by kernel_rfl)
noncomputable def sHasOne:OSpec Tryz.prog :=
 OSpec.auto Tryz.call279 [.one (.c (.b (.y 0 3 1))),onF] (onO r (pl1 p)) (tB' false) [] [(sIdxOne h hp h1).e] [] 400 Tryz.func279 hmA (by kernel_rfl) (fun β=>by kernel_rfl)
end
abbrev rOnR:SV:=.tup [.c (.b (.v (.bool true))),nI' 0]
noncomputable def sROn1 {r:RQ} {p:Pt} (h:MayC r) (hp:FitP p) (h1:(!((sidQ r p).num.sign==0))=false):RSpec Tryz.prog :=
 ⟨118,Tryz.call118,[.one (.a (cC r)),.one (.c (.b (.s 0 0 1 1)))],pr1 p,rOnR,fun β w hh =>
  rspec_ok [(sWheel h).e,(sRSpots1 hp).e,(sHasOne h.sz hp h1).e] [] 800 Tryz.func118 hmA (fun β=>by kernel_rfl) (by kernel_rfl) (by kernel_rfl) β w hh,by kernel_rfl⟩
noncomputable def sROn2 {r:RQ} {p q:Pt} (h:MayC r) (hp:FitP p) (hq:FitP q) (h1:(!((sidQ r p).num.sign==0))=false) (h2:(!((sidQ r q).num.sign==0))=false):RSpec Tryz.prog :=
 ⟨118,Tryz.call118,[.one (.a (cC r)),.one (.c (.b (.s 0 0 2 2)))],pr2 p q,rOnR,fun β w hh =>
  rspec_ok [(sWheel h).e,(sRSpots2 hp hq).e,(sHas2 h.sz hp hq h1 h2).e] [] 800 Tryz.func118 hmA (fun β=>by kernel_rfl) (by kernel_rfl) (by kernel_rfl) β w hh,by kernel_rfl⟩
def sm14 (p:Cp):Bool:=smB 14 p.a p.c&&smB 14 p.b p.b'
noncomputable def sm14E (p:Cp) {b:Bool} (h:sm14 p=b):Ev Tryz.prog:=(sR4Small2 14 p.a p.c p.b p.b' h).e
abbrev fw3S:List SV:=[.one (svI 14),.one (.c (.b (.s 0 0 3 3)))]
theorem fws_ok (p q r:Cp) {b:Bool} (hb:(sm14 p&&(sm14 q&&sm14 r))=b) (β:Env) (w:World) (hh:(Ob.box (c4 p++c4 q++c4 r) CIT).holds β w (β 0)) :
  Calls Tryz.prog 103 (fw3S.map (SV.den β)).toArray w fun e w'=>e=.returned (.bool b)∧Below w.heap.size w w':=by
 cases h1:sm14 p with
 | false =>
  rw [h1] at hb
  subst hb
  exact bspec_ok [sm14E p h1] [(4,20)] 800 Tryz.func103 hmA (fun β=>by kernel_rfl) (by kernel_rfl) (fun β=>rfl) β w hh
 | true =>
  rw [h1] at hb
  cases h2:sm14 q with
  | false =>
   rw [h2] at hb
   subst hb
   exact bspec_ok [sm14E p h1,sm14E q h2] [(4,20)] 800 Tryz.func103 hmA (fun β=>by kernel_rfl) (by kernel_rfl) (fun β=>rfl) β w hh
  | true =>
   rw [h2] at hb
   have h3:sm14 r=b:=hb
   cases b<;>exact bspec_ok [sm14E p h1,sm14E q h2,sm14E r h3] [(4,20)] 800 Tryz.func103 hmA (fun β=>by kernel_rfl) (by kernel_rfl) (fun β=>rfl) β w hh
noncomputable def sFwS (p q r:Cp) {b:Bool} (hb:(sm14 p&&(sm14 q&&sm14 r))=b):BSpec Tryz.prog :=
 ⟨103,Tryz.call103,fw3S,c4 p++c4 q++c4 r,CIT,.bool b,fws_ok p q r hb,by kernel_rfl,fun _=>rfl⟩
def fewB3 (p q r:Cp):Bool:=(sm14 p&&(sm14 q&&sm14 r))&&(p.B&&(q.B&&r.B))
abbrev fw3A:List SV:=[.one (.c (.b (.s 0 0 3 3)))]
theorem few3_ok (p q r:Cp) {b:Bool} (hb:fewB3 p q r=b) (β:Env) (w:World) (hh:(Ob.box (c4 p++c4 q++c4 r) CIT).holds β w (β 0)) :
  Calls Tryz.prog 112 (fw3A.map (SV.den β)).toArray w fun e w'=>e=.returned (.bool b)∧Below w.heap.size w w':=by
 unfold fewB3 at hb
 cases h1:(sm14 p&&(sm14 q&&sm14 r)) with
 | false =>
  rw [h1] at hb
  subst hb
  exact bspec_ok [(sFwS p q r h1).e] [] 800 Tryz.func112 hmA (fun β=>by kernel_rfl) (by kernel_rfl) (fun β=>rfl) β w hh
 | true =>
  rw [h1] at hb
  have h2:(p.B&&(q.B&&r.B))=b:=hb
  cases b<;>exact bspec_ok [(sFwS p q r h1).e,(sMayThree p q r h2).e] [] 800 Tryz.func112 hmA (fun β=>by kernel_rfl) (by kernel_rfl) (fun β=>rfl) β w hh
noncomputable def sFew3 (p q r:Cp) {b:Bool} (hb:fewB3 p q r=b):BSpec Tryz.prog :=
 ⟨112,Tryz.call112,fw3A,c4 p++c4 q++c4 r,CIT,.bool b,few3_ok p q r hb,by kernel_rfl,fun _=>rfl⟩
abbrev loA (p q r:Cp) (a b:Fn):List SV:=[.one (.a (c4 p++c4 q++c4 r)),.one (.a (rL a.r++rL b.r))]
abbrev loN:List (Nat × Nat):=[(1,6018005017004016003015019),(10,34)]
noncomputable def lo1 (p q r:Cp) (a b:Fn) (h:fewB3 p q r=false):Spec Tryz.prog :=
 Spec.auto Tryz.call12 (loA p q r a b) [] (tB' true) [] [sKnown13.e,(sFew3 p q r h).e] loN 2000 Tryz.func12 hmA (by kernel_rfl) (fun β=>by kernel_rfl)
noncomputable def lo2 (p q r:Cp) (a b:Fn) (h:fewB3 p q r=true) (n:a.B=false):Spec Tryz.prog :=
 Spec.auto Tryz.call12 (loA p q r a b) [] (tB' true) [] [sKnown13.e,(sFew3 p q r h).e,(sR3MayQ a n).e] loN 2000 Tryz.func12 hmA (by kernel_rfl) (fun β=>by kernel_rfl)
noncomputable def lo3 (p q r:Cp) (a b:Fn) (h:fewB3 p q r=true) (n:a.B=true) (m:b.B=false):Spec Tryz.prog :=
 Spec.auto Tryz.call12 (loA p q r a b) [] (tB' true) [] [sKnown13.e,(sFew3 p q r h).e,(sR3MayQ a n).e,(sR3MayQ b m).e] loN 2000 Tryz.func12 hmA (by kernel_rfl) (fun β=>by kernel_rfl)
noncomputable def lo4 (p q r:Cp) (a b:Fn) (h:fewB3 p q r=true) (n:a.B=true) (m:b.B=true) (k:smB 14 a.r b.r=false):Spec Tryz.prog :=
 Spec.auto Tryz.call12 (loA p q r a b) [] (tB' true) [] [sKnown13.e,(sFew3 p q r h).e,(sR3MayQ a n).e,(sR3MayQ b m).e,(sR4Small 14 a.r b.r k).e] loN 2000 Tryz.func12 hmA (by kernel_rfl) (fun β=>by kernel_rfl)
structure LoD (f g h:RQ) (s t:Rat):Prop where
 hf:MayC f
 hg:MayC g
 hh:MayC h
 hs:Fit s
 ht:Fit t
 fw:fewB3 (.ok f hf) (.ok g hg) (.ok h hh)=true
 sm:smB 14 (fR s) (fR t)=true
 wa:wtB (ovQ f g)=false
 ma:MayC (rone (ovQ f g))
 wb:wtB (ovQ f (rone (ovQ f g)))=false
 eb:rone (ovQ f (rone (ovQ f g)))=g
 wc:wtB (ovQ f f)=false
section
variable {f g h:RQ} {s t:Rat} (D:LoD f g h s t)
abbrev loP (D:LoD f g h s t):List SV:=loA (.ok f D.hf) (.ok g D.hg) (.ok h D.hh) (.ok s D.hs) (.ok t D.ht)
abbrev okC (r:RQ):SV:=.tup [.a (cC r),nI' 0]
abbrev noC:SV:=.tup [.a c0C,nI' 7]
noncomputable def loE1 {u:Bool} (hu:decide (fpr f g=0)=u) {e:Bool} (he:eqRone (rone (ovQ f g)) g=e):List (Ev Tryz.prog) :=
 [sKnown13.e,(sFew3 (.ok f D.hf) (.ok g D.hg) (.ok h D.hh) D.fw).e,(sR3MayQ (.ok s D.hs) rfl).e,(sR3MayQ (.ok t D.ht) rfl).e,(sR4Small 14 (fR s) (fR t) D.sm).e,
  ((sMOver D.hf D.hg).conv (okC (rone (ovQ f g))) (mx_eq D.wa rfl D.ma.fit)).e,((sMOver D.hf D.ma).conv (okC g) (mx_eq D.wb D.eb D.hg.fit)).e,((sMOver D.hf D.hf).conv (okC f) (mx_eq D.wc (ov_self D.hf) D.hf.fit)).e,(sMUp D.hf D.hg hu).e,
  (sNum13 0).e,(sNum13 0).e,(sNum13 0).e,(sNum13 0).e,eqEvR g g (eqRone_iff.2 rfl),eqEvR f f (eqRone_iff.2 rfl),eqEvR (rone (ovQ f g)) g he]
inductive LoU (f g:RQ):Type where
 | up (h:decide (fpr f g=0)=true) (e:eqRone (rone (ovQ f g)) g=true)
 | eq (h:decide (fpr f g=0)=false) (e:eqRone (rone (ovQ f g)) g=true) (s:eqRone f g=true)
 | ne (h:decide (fpr f g=0)=false) (e:eqRone (rone (ovQ f g)) g=false) (s:eqRone f g=false)
noncomputable def loU:LoU f g→List (Ev Tryz.prog)
 | .up h e=>loE1 D h e
 | .eq h e s=>loE1 D h e++[eqEvR f g s]
 | .ne h e s=>loE1 D h e++[eqEvR f g s]
inductive LoX (f g h:RQ):Type where
 | bun (k:Zk) (hk:k.at (mnQ 0 f g h)) (y:k.yes=true) (w:wtB (acQ f g h)=true)
 | non (k:Zk) (hk:k.at (mnQ 0 f g h)) (y:k.yes=false) (w:wtB (acQ f g h)=true)
 | yes (k:Zk) (hk:k.at (mnQ 0 f g h)) (y:k.yes=false) (w:wtB (acQ f g h)=false) (m:MayC (rone (acQ f g h))) (u1:decide (fpr (rone (acQ f g h)) f=0)=true) (u2:decide (fpr (rone (acQ f g h)) g=0)=true) (u3:decide (fpr (rone (acQ f g h)) h=0)=true)
theorem bun_lit {k:Zk} {b:Bool} (y:k.yes=b):SV.tup [.c (.b (.v (.bool k.yes))),nI' 0]=.tup [.c (.b (.v (.bool b))),nI' 0]:=by rw [y]
theorem mxN {r:RQ} (w:wtB r=true):mxA r=noC:=by rw [mxA,(mx_no w).1,(mx_no w).2]
noncomputable def loX:LoX f g h→List (Ev Tryz.prog)
 | .bun k hk y w=>[((sMAcross D.hf D.hg D.hh).conv noC (mxN w)).e,((sMBundle D.hf D.hg D.hh hk).conv (.tup [.c (.b (.v (.bool true))),nI' 0]) (bun_lit y)).e,(sNum13 0).e,(sNum13 7).e,(sNum13 7).e]
 | .non k hk y w=>[((sMAcross D.hf D.hg D.hh).conv noC (mxN w)).e,((sMBundle D.hf D.hg D.hh hk).conv (.tup [.c (.b (.v (.bool false))),nI' 0]) (bun_lit y)).e,(sNum13 0).e,(sNum13 7).e]
 | .yes k hk y w m u1 u2 u3=>[((sMAcross D.hf D.hg D.hh).conv (okC (rone (acQ f g h))) (mx_eq w rfl m.fit)).e,((sMBundle D.hf D.hg D.hh hk).conv (.tup [.c (.b (.v (.bool false))),nI' 0]) (bun_lit y)).e,(sNum13 0).e,(sNum13 0).e,(sMUp m D.hf u1).e,(sNum13 0).e,(sMUp m D.hg u2).e,(sNum13 0).e,(sMUp m D.hh u3).e,(sNum13 0).e]
inductive LoY (f g h:RQ) (s t:Rat):Type where
 | no (w:wtB (pls f g s t)=true)
 | nil (w:wtB (pls f g s t)=false) (m:MayC (rone (pls f g s t))) (k:Int) (k0:(!(k==0))=true) (p:ValT ptsF f g (ptNil k))
 | one (w:wtB (pls f g s t)=false) (m:MayC (rone (pls f g s t))) (A:Pt) (fA:FitP A) (oA:(!((sidQ (rone (pls f g s t)) A).num.sign==0))=false) (b:Zk.all.at (mnQ 0 f (rone (pls f g s t)) g)) (p:OwnT ptsF f g (pr1 A) ptR1)
 | two (w:wtB (pls f g s t)=false) (m:MayC (rone (pls f g s t))) (A B:Pt) (fA:FitP A) (oA:(!((sidQ (rone (pls f g s t)) A).num.sign==0))=false) (fB:FitP B) (oB:(!((sidQ (rone (pls f g s t)) B).num.sign==0))=false) (b:Zk.all.at (mnQ 0 f (rone (pls f g s t)) g)) (p:OwnT ptsF f g (pr2 A B) ptR2)
noncomputable def mixY (w:wtB (pls f g s t)=false) (m:MayC (rone (pls f g s t))):Ev Tryz.prog:=((sMMix D.hf D.hg D.hs D.ht).conv (okC (rone (pls f g s t))) (mx_eq w rfl m.fit)).e
noncomputable def loYE (X:List (Ev Tryz.prog)):LoY f g h s t→List (Ev Tryz.prog)
 | .no w=>[((sMMix D.hf D.hg D.hs D.ht).conv noC (mxN w)).e,(sNum13 7).e,(sNum13 7).e]
 | .nil w m k k0 p=>mixY D w m::(sNum13 0).e::X++[(pNil p).e,(sNum13 k).e,.eqv 215 (.bool (!(k==0))) (.bool true) (by rw [k0])]
 | .one w m A fA oA b p=>mixY D w m::(sNum13 0).e::X++[(pOne p).e,(sNum13 0).e,(sROn1 m fA oA).eS,(sMBundle D.hf m D.hg b).e,(sNum13 0).e,(sNum13 0).e]
 | .two w m A B fA oA fB oB b p=>mixY D w m::(sNum13 0).e::X++[(pTwo p).e,(sNum13 0).e,(sROn2 m fA fB oA oB).eS,(sMBundle D.hf m D.hg b).e,(sNum13 0).e,(sNum13 0).e]
end
section
variable {f g h:RQ} {s t:Rat} (D:LoD f g h s t)
include D in
theorem lo_up_bun_no (a:decide (fpr f g=0)=true) (e:eqRone (rone (ovQ f g)) g=true) (k:Zk) (hk:k.at (mnQ 0 f g h)) (y1:k.yes=true) (w1:wtB (acQ f g h)=true) (wp:wtB (pls f g s t)=true) (β:Env) (w:World) (hh:∀ (k:Nat) (t:Thing),([]:List Thing)[k]?=some t→t.D w (β k)) :
  Calls Tryz.prog 12 ((loP D).map (SV.den β)).toArray w fun e w'=>∃ xs:List Pl,freshS β w 0 xs∧e=.returned ((tB' true).den (extE β 0 xs))∧newHold w' [] xs∧Below w.heap.size w w':=by
 exact spec_auto (evs:=loU D (.up a e)++loX D (.bun k hk y1 w1)++loYE D ([]) (.no wp)) (Ns:=loN) (m:=2000) Tryz.func12 hmA (fun β=>by kernel_rfl) (by kernel_rfl) β w hh
include D in
theorem lo_up_bun_nil (a:decide (fpr f g=0)=true) (e:eqRone (rone (ovQ f g)) g=true) (k:Zk) (hk:k.at (mnQ 0 f g h)) (y1:k.yes=true) (w1:wtB (acQ f g h)=true) (wp:wtB (pls f g s t)=false) (mm:MayC (rone (pls f g s t))) (kk:Int) (k0:(!(kk==0))=true) (p:ValT ptsF f g (ptNil kk)) (β:Env) (w:World) (hh:∀ (k:Nat) (t:Thing),([]:List Thing)[k]?=some t→t.D w (β k)) :
  Calls Tryz.prog 12 ((loP D).map (SV.den β)).toArray w fun e w'=>∃ xs:List Pl,freshS β w 0 xs∧e=.returned ((tB' true).den (extE β 0 xs))∧newHold w' [] xs∧Below w.heap.size w w':=by
 exact spec_auto (evs:=loU D (.up a e)++loX D (.bun k hk y1 w1)++loYE D ([(sNum13 7).e]) (.nil wp mm kk k0 p)) (Ns:=loN) (m:=2000) Tryz.func12 hmA (fun β=>by kernel_rfl) (by kernel_rfl) β w hh
include D in
theorem lo_up_bun_one (a:decide (fpr f g=0)=true) (e:eqRone (rone (ovQ f g)) g=true) (k:Zk) (hk:k.at (mnQ 0 f g h)) (y1:k.yes=true) (w1:wtB (acQ f g h)=true) (wp:wtB (pls f g s t)=false) (mm:MayC (rone (pls f g s t))) (A:Pt) (fA:FitP A) (oA:(!((sidQ (rone (pls f g s t)) A).num.sign==0))=false) (b:Zk.all.at (mnQ 0 f (rone (pls f g s t)) g)) (p:OwnT ptsF f g (pr1 A) ptR1) (β:Env) (w:World) (hh:∀ (k:Nat) (t:Thing),([]:List Thing)[k]?=some t→t.D w (β k)) :
  Calls Tryz.prog 12 ((loP D).map (SV.den β)).toArray w fun e w'=>∃ xs:List Pl,freshS β w 0 xs∧e=.returned ((tB' true).den (extE β 0 xs))∧newHold w' [] xs∧Below w.heap.size w w':=by
 exact spec_auto (evs:=loU D (.up a e)++loX D (.bun k hk y1 w1)++loYE D ([(sNum13 7).e]) (.one wp mm A fA oA b p)) (Ns:=loN) (m:=2000) Tryz.func12 hmA (fun β=>by kernel_rfl) (by kernel_rfl) β w hh
include D in
theorem lo_up_bun_two (a:decide (fpr f g=0)=true) (e:eqRone (rone (ovQ f g)) g=true) (k:Zk) (hk:k.at (mnQ 0 f g h)) (y1:k.yes=true) (w1:wtB (acQ f g h)=true) (wp:wtB (pls f g s t)=false) (mm:MayC (rone (pls f g s t))) (A B:Pt) (fA:FitP A) (oA:(!((sidQ (rone (pls f g s t)) A).num.sign==0))=false) (fB:FitP B) (oB:(!((sidQ (rone (pls f g s t)) B).num.sign==0))=false) (b:Zk.all.at (mnQ 0 f (rone (pls f g s t)) g)) (p:OwnT ptsF f g (pr2 A B) ptR2) (β:Env) (w:World) (hh:∀ (k:Nat) (t:Thing),([]:List Thing)[k]?=some t→t.D w (β k)) :
  Calls Tryz.prog 12 ((loP D).map (SV.den β)).toArray w fun e w'=>∃ xs:List Pl,freshS β w 0 xs∧e=.returned ((tB' true).den (extE β 0 xs))∧newHold w' [] xs∧Below w.heap.size w w':=by
 exact spec_auto (evs:=loU D (.up a e)++loX D (.bun k hk y1 w1)++loYE D ([(sNum13 7).e]) (.two wp mm A B fA oA fB oB b p)) (Ns:=loN) (m:=2000) Tryz.func12 hmA (fun β=>by kernel_rfl) (by kernel_rfl) β w hh
include D in
theorem lo_up_bun (a:decide (fpr f g=0)=true) (e:eqRone (rone (ovQ f g)) g=true) (k:Zk) (hk:k.at (mnQ 0 f g h)) (y1:k.yes=true) (w1:wtB (acQ f g h)=true) (y:LoY f g h s t) (β:Env) (w:World) (hh:∀ (k:Nat) (t:Thing),([]:List Thing)[k]?=some t→t.D w (β k)) :
  Calls Tryz.prog 12 ((loP D).map (SV.den β)).toArray w fun e w'=>∃ xs:List Pl,freshS β w 0 xs∧e=.returned ((tB' true).den (extE β 0 xs))∧newHold w' [] xs∧Below w.heap.size w w':=by
 cases y with
 | no wp=>exact lo_up_bun_no D a e k hk y1 w1 wp β w hh
 | nil wp mm kk k0 p=>exact lo_up_bun_nil D a e k hk y1 w1 wp mm kk k0 p β w hh
 | one wp mm A fA oA b p=>exact lo_up_bun_one D a e k hk y1 w1 wp mm A fA oA b p β w hh
 | two wp mm A B fA oA fB oB b p=>exact lo_up_bun_two D a e k hk y1 w1 wp mm A B fA oA fB oB b p β w hh
include D in
theorem lo_up_non_no (a:decide (fpr f g=0)=true) (e:eqRone (rone (ovQ f g)) g=true) (k:Zk) (hk:k.at (mnQ 0 f g h)) (y1:k.yes=false) (w1:wtB (acQ f g h)=true) (wp:wtB (pls f g s t)=true) (β:Env) (w:World) (hh:∀ (k:Nat) (t:Thing),([]:List Thing)[k]?=some t→t.D w (β k)) :
  Calls Tryz.prog 12 ((loP D).map (SV.den β)).toArray w fun e w'=>∃ xs:List Pl,freshS β w 0 xs∧e=.returned ((tB' true).den (extE β 0 xs))∧newHold w' [] xs∧Below w.heap.size w w':=by
 exact spec_auto (evs:=loU D (.up a e)++loX D (.non k hk y1 w1)++loYE D ([]) (.no wp)) (Ns:=loN) (m:=2000) Tryz.func12 hmA (fun β=>by kernel_rfl) (by kernel_rfl) β w hh
include D in
theorem lo_up_non_nil (a:decide (fpr f g=0)=true) (e:eqRone (rone (ovQ f g)) g=true) (k:Zk) (hk:k.at (mnQ 0 f g h)) (y1:k.yes=false) (w1:wtB (acQ f g h)=true) (wp:wtB (pls f g s t)=false) (mm:MayC (rone (pls f g s t))) (kk:Int) (k0:(!(kk==0))=true) (p:ValT ptsF f g (ptNil kk)) (β:Env) (w:World) (hh:∀ (k:Nat) (t:Thing),([]:List Thing)[k]?=some t→t.D w (β k)) :
  Calls Tryz.prog 12 ((loP D).map (SV.den β)).toArray w fun e w'=>∃ xs:List Pl,freshS β w 0 xs∧e=.returned ((tB' true).den (extE β 0 xs))∧newHold w' [] xs∧Below w.heap.size w w':=by
 exact spec_auto (evs:=loU D (.up a e)++loX D (.non k hk y1 w1)++loYE D ([(sNum13 7).e]) (.nil wp mm kk k0 p)) (Ns:=loN) (m:=2000) Tryz.func12 hmA (fun β=>by kernel_rfl) (by kernel_rfl) β w hh
include D in
theorem lo_up_non_one (a:decide (fpr f g=0)=true) (e:eqRone (rone (ovQ f g)) g=true) (k:Zk) (hk:k.at (mnQ 0 f g h)) (y1:k.yes=false) (w1:wtB (acQ f g h)=true) (wp:wtB (pls f g s t)=false) (mm:MayC (rone (pls f g s t))) (A:Pt) (fA:FitP A) (oA:(!((sidQ (rone (pls f g s t)) A).num.sign==0))=false) (b:Zk.all.at (mnQ 0 f (rone (pls f g s t)) g)) (p:OwnT ptsF f g (pr1 A) ptR1) (β:Env) (w:World) (hh:∀ (k:Nat) (t:Thing),([]:List Thing)[k]?=some t→t.D w (β k)) :
  Calls Tryz.prog 12 ((loP D).map (SV.den β)).toArray w fun e w'=>∃ xs:List Pl,freshS β w 0 xs∧e=.returned ((tB' true).den (extE β 0 xs))∧newHold w' [] xs∧Below w.heap.size w w':=by
 exact spec_auto (evs:=loU D (.up a e)++loX D (.non k hk y1 w1)++loYE D ([(sNum13 7).e]) (.one wp mm A fA oA b p)) (Ns:=loN) (m:=2000) Tryz.func12 hmA (fun β=>by kernel_rfl) (by kernel_rfl) β w hh
include D in
theorem lo_up_non_two (a:decide (fpr f g=0)=true) (e:eqRone (rone (ovQ f g)) g=true) (k:Zk) (hk:k.at (mnQ 0 f g h)) (y1:k.yes=false) (w1:wtB (acQ f g h)=true) (wp:wtB (pls f g s t)=false) (mm:MayC (rone (pls f g s t))) (A B:Pt) (fA:FitP A) (oA:(!((sidQ (rone (pls f g s t)) A).num.sign==0))=false) (fB:FitP B) (oB:(!((sidQ (rone (pls f g s t)) B).num.sign==0))=false) (b:Zk.all.at (mnQ 0 f (rone (pls f g s t)) g)) (p:OwnT ptsF f g (pr2 A B) ptR2) (β:Env) (w:World) (hh:∀ (k:Nat) (t:Thing),([]:List Thing)[k]?=some t→t.D w (β k)) :
  Calls Tryz.prog 12 ((loP D).map (SV.den β)).toArray w fun e w'=>∃ xs:List Pl,freshS β w 0 xs∧e=.returned ((tB' true).den (extE β 0 xs))∧newHold w' [] xs∧Below w.heap.size w w':=by
 exact spec_auto (evs:=loU D (.up a e)++loX D (.non k hk y1 w1)++loYE D ([(sNum13 7).e]) (.two wp mm A B fA oA fB oB b p)) (Ns:=loN) (m:=2000) Tryz.func12 hmA (fun β=>by kernel_rfl) (by kernel_rfl) β w hh
include D in
theorem lo_up_non (a:decide (fpr f g=0)=true) (e:eqRone (rone (ovQ f g)) g=true) (k:Zk) (hk:k.at (mnQ 0 f g h)) (y1:k.yes=false) (w1:wtB (acQ f g h)=true) (y:LoY f g h s t) (β:Env) (w:World) (hh:∀ (k:Nat) (t:Thing),([]:List Thing)[k]?=some t→t.D w (β k)) :
  Calls Tryz.prog 12 ((loP D).map (SV.den β)).toArray w fun e w'=>∃ xs:List Pl,freshS β w 0 xs∧e=.returned ((tB' true).den (extE β 0 xs))∧newHold w' [] xs∧Below w.heap.size w w':=by
 cases y with
 | no wp=>exact lo_up_non_no D a e k hk y1 w1 wp β w hh
 | nil wp mm kk k0 p=>exact lo_up_non_nil D a e k hk y1 w1 wp mm kk k0 p β w hh
 | one wp mm A fA oA b p=>exact lo_up_non_one D a e k hk y1 w1 wp mm A fA oA b p β w hh
 | two wp mm A B fA oA fB oB b p=>exact lo_up_non_two D a e k hk y1 w1 wp mm A B fA oA fB oB b p β w hh
include D in
theorem lo_up_yes_no (a:decide (fpr f g=0)=true) (e:eqRone (rone (ovQ f g)) g=true) (k:Zk) (hk:k.at (mnQ 0 f g h)) (y1:k.yes=false) (w1:wtB (acQ f g h)=false) (m:MayC (rone (acQ f g h))) (u1:decide (fpr (rone (acQ f g h)) f=0)=true) (u2:decide (fpr (rone (acQ f g h)) g=0)=true) (u3:decide (fpr (rone (acQ f g h)) h=0)=true) (my:wtB (pls f g s t)=false→MayC (rone (pls f g s t))∧decide (fpr (rone (acQ f g h)) (rone (pls f g s t))=0)=true) (wp:wtB (pls f g s t)=true) (β:Env) (w:World) (hh:∀ (k:Nat) (t:Thing),([]:List Thing)[k]?=some t→t.D w (β k)) :
  Calls Tryz.prog 12 ((loP D).map (SV.den β)).toArray w fun e w'=>∃ xs:List Pl,freshS β w 0 xs∧e=.returned ((tB' true).den (extE β 0 xs))∧newHold w' [] xs∧Below w.heap.size w w':=by
 exact spec_auto (evs:=loU D (.up a e)++loX D (.yes k hk y1 w1 m u1 u2 u3)++loYE D ([]) (.no wp)) (Ns:=loN) (m:=2000) Tryz.func12 hmA (fun β=>by kernel_rfl) (by kernel_rfl) β w hh
include D in
theorem lo_up_yes_nil (a:decide (fpr f g=0)=true) (e:eqRone (rone (ovQ f g)) g=true) (k:Zk) (hk:k.at (mnQ 0 f g h)) (y1:k.yes=false) (w1:wtB (acQ f g h)=false) (m:MayC (rone (acQ f g h))) (u1:decide (fpr (rone (acQ f g h)) f=0)=true) (u2:decide (fpr (rone (acQ f g h)) g=0)=true) (u3:decide (fpr (rone (acQ f g h)) h=0)=true) (my:wtB (pls f g s t)=false→MayC (rone (pls f g s t))∧decide (fpr (rone (acQ f g h)) (rone (pls f g s t))=0)=true) (wp:wtB (pls f g s t)=false) (mm:MayC (rone (pls f g s t))) (kk:Int) (k0:(!(kk==0))=true) (p:ValT ptsF f g (ptNil kk)) (β:Env) (w:World) (hh:∀ (k:Nat) (t:Thing),([]:List Thing)[k]?=some t→t.D w (β k)) :
  Calls Tryz.prog 12 ((loP D).map (SV.den β)).toArray w fun e w'=>∃ xs:List Pl,freshS β w 0 xs∧e=.returned ((tB' true).den (extE β 0 xs))∧newHold w' [] xs∧Below w.heap.size w w':=by
 exact spec_auto (evs:=loU D (.up a e)++loX D (.yes k hk y1 w1 m u1 u2 u3)++loYE D ([(sNum13 0).e,(sMUp m (my wp).1 (my wp).2).e,(sNum13 0).e]) (.nil wp mm kk k0 p)) (Ns:=loN) (m:=2000) Tryz.func12 hmA (fun β=>by kernel_rfl) (by kernel_rfl) β w hh
include D in
theorem lo_up_yes_one (a:decide (fpr f g=0)=true) (e:eqRone (rone (ovQ f g)) g=true) (k:Zk) (hk:k.at (mnQ 0 f g h)) (y1:k.yes=false) (w1:wtB (acQ f g h)=false) (m:MayC (rone (acQ f g h))) (u1:decide (fpr (rone (acQ f g h)) f=0)=true) (u2:decide (fpr (rone (acQ f g h)) g=0)=true) (u3:decide (fpr (rone (acQ f g h)) h=0)=true) (my:wtB (pls f g s t)=false→MayC (rone (pls f g s t))∧decide (fpr (rone (acQ f g h)) (rone (pls f g s t))=0)=true) (wp:wtB (pls f g s t)=false) (mm:MayC (rone (pls f g s t))) (A:Pt) (fA:FitP A) (oA:(!((sidQ (rone (pls f g s t)) A).num.sign==0))=false) (b:Zk.all.at (mnQ 0 f (rone (pls f g s t)) g)) (p:OwnT ptsF f g (pr1 A) ptR1) (β:Env) (w:World) (hh:∀ (k:Nat) (t:Thing),([]:List Thing)[k]?=some t→t.D w (β k)) :
  Calls Tryz.prog 12 ((loP D).map (SV.den β)).toArray w fun e w'=>∃ xs:List Pl,freshS β w 0 xs∧e=.returned ((tB' true).den (extE β 0 xs))∧newHold w' [] xs∧Below w.heap.size w w':=by
 exact spec_auto (evs:=loU D (.up a e)++loX D (.yes k hk y1 w1 m u1 u2 u3)++loYE D ([(sNum13 0).e,(sMUp m (my wp).1 (my wp).2).e,(sNum13 0).e]) (.one wp mm A fA oA b p)) (Ns:=loN) (m:=2000) Tryz.func12 hmA (fun β=>by kernel_rfl) (by kernel_rfl) β w hh
include D in
theorem lo_up_yes_two (a:decide (fpr f g=0)=true) (e:eqRone (rone (ovQ f g)) g=true) (k:Zk) (hk:k.at (mnQ 0 f g h)) (y1:k.yes=false) (w1:wtB (acQ f g h)=false) (m:MayC (rone (acQ f g h))) (u1:decide (fpr (rone (acQ f g h)) f=0)=true) (u2:decide (fpr (rone (acQ f g h)) g=0)=true) (u3:decide (fpr (rone (acQ f g h)) h=0)=true) (my:wtB (pls f g s t)=false→MayC (rone (pls f g s t))∧decide (fpr (rone (acQ f g h)) (rone (pls f g s t))=0)=true) (wp:wtB (pls f g s t)=false) (mm:MayC (rone (pls f g s t))) (A B:Pt) (fA:FitP A) (oA:(!((sidQ (rone (pls f g s t)) A).num.sign==0))=false) (fB:FitP B) (oB:(!((sidQ (rone (pls f g s t)) B).num.sign==0))=false) (b:Zk.all.at (mnQ 0 f (rone (pls f g s t)) g)) (p:OwnT ptsF f g (pr2 A B) ptR2) (β:Env) (w:World) (hh:∀ (k:Nat) (t:Thing),([]:List Thing)[k]?=some t→t.D w (β k)) :
  Calls Tryz.prog 12 ((loP D).map (SV.den β)).toArray w fun e w'=>∃ xs:List Pl,freshS β w 0 xs∧e=.returned ((tB' true).den (extE β 0 xs))∧newHold w' [] xs∧Below w.heap.size w w':=by
 exact spec_auto (evs:=loU D (.up a e)++loX D (.yes k hk y1 w1 m u1 u2 u3)++loYE D ([(sNum13 0).e,(sMUp m (my wp).1 (my wp).2).e,(sNum13 0).e]) (.two wp mm A B fA oA fB oB b p)) (Ns:=loN) (m:=2000) Tryz.func12 hmA (fun β=>by kernel_rfl) (by kernel_rfl) β w hh
include D in
theorem lo_up_yes (a:decide (fpr f g=0)=true) (e:eqRone (rone (ovQ f g)) g=true) (k:Zk) (hk:k.at (mnQ 0 f g h)) (y1:k.yes=false) (w1:wtB (acQ f g h)=false) (m:MayC (rone (acQ f g h))) (u1:decide (fpr (rone (acQ f g h)) f=0)=true) (u2:decide (fpr (rone (acQ f g h)) g=0)=true) (u3:decide (fpr (rone (acQ f g h)) h=0)=true) (my:wtB (pls f g s t)=false→MayC (rone (pls f g s t))∧decide (fpr (rone (acQ f g h)) (rone (pls f g s t))=0)=true) (y:LoY f g h s t) (β:Env) (w:World) (hh:∀ (k:Nat) (t:Thing),([]:List Thing)[k]?=some t→t.D w (β k)) :
  Calls Tryz.prog 12 ((loP D).map (SV.den β)).toArray w fun e w'=>∃ xs:List Pl,freshS β w 0 xs∧e=.returned ((tB' true).den (extE β 0 xs))∧newHold w' [] xs∧Below w.heap.size w w':=by
 cases y with
 | no wp=>exact lo_up_yes_no D a e k hk y1 w1 m u1 u2 u3 my wp β w hh
 | nil wp mm kk k0 p=>exact lo_up_yes_nil D a e k hk y1 w1 m u1 u2 u3 my wp mm kk k0 p β w hh
 | one wp mm A fA oA b p=>exact lo_up_yes_one D a e k hk y1 w1 m u1 u2 u3 my wp mm A fA oA b p β w hh
 | two wp mm A B fA oA fB oB b p=>exact lo_up_yes_two D a e k hk y1 w1 m u1 u2 u3 my wp mm A B fA oA fB oB b p β w hh
end
section
variable {f g h:RQ} {s t:Rat} (D:LoD f g h s t)
include D in
theorem lo_eq_bun_no (a:decide (fpr f g=0)=false) (e:eqRone (rone (ovQ f g)) g=true) (q:eqRone f g=true) (k:Zk) (hk:k.at (mnQ 0 f g h)) (y1:k.yes=true) (w1:wtB (acQ f g h)=true) (wp:wtB (pls f g s t)=true) (β:Env) (w:World) (hh:∀ (k:Nat) (t:Thing),([]:List Thing)[k]?=some t→t.D w (β k)) :
  Calls Tryz.prog 12 ((loP D).map (SV.den β)).toArray w fun e w'=>∃ xs:List Pl,freshS β w 0 xs∧e=.returned ((tB' true).den (extE β 0 xs))∧newHold w' [] xs∧Below w.heap.size w w':=by
 exact spec_auto (evs:=loU D (.eq a e q)++loX D (.bun k hk y1 w1)++loYE D ([]) (.no wp)) (Ns:=loN) (m:=2000) Tryz.func12 hmA (fun β=>by kernel_rfl) (by kernel_rfl) β w hh
include D in
theorem lo_eq_bun_nil (a:decide (fpr f g=0)=false) (e:eqRone (rone (ovQ f g)) g=true) (q:eqRone f g=true) (k:Zk) (hk:k.at (mnQ 0 f g h)) (y1:k.yes=true) (w1:wtB (acQ f g h)=true) (wp:wtB (pls f g s t)=false) (mm:MayC (rone (pls f g s t))) (kk:Int) (k0:(!(kk==0))=true) (p:ValT ptsF f g (ptNil kk)) (β:Env) (w:World) (hh:∀ (k:Nat) (t:Thing),([]:List Thing)[k]?=some t→t.D w (β k)) :
  Calls Tryz.prog 12 ((loP D).map (SV.den β)).toArray w fun e w'=>∃ xs:List Pl,freshS β w 0 xs∧e=.returned ((tB' true).den (extE β 0 xs))∧newHold w' [] xs∧Below w.heap.size w w':=by
 exact spec_auto (evs:=loU D (.eq a e q)++loX D (.bun k hk y1 w1)++loYE D ([(sNum13 7).e]) (.nil wp mm kk k0 p)) (Ns:=loN) (m:=2000) Tryz.func12 hmA (fun β=>by kernel_rfl) (by kernel_rfl) β w hh
include D in
theorem lo_eq_bun_one (a:decide (fpr f g=0)=false) (e:eqRone (rone (ovQ f g)) g=true) (q:eqRone f g=true) (k:Zk) (hk:k.at (mnQ 0 f g h)) (y1:k.yes=true) (w1:wtB (acQ f g h)=true) (wp:wtB (pls f g s t)=false) (mm:MayC (rone (pls f g s t))) (A:Pt) (fA:FitP A) (oA:(!((sidQ (rone (pls f g s t)) A).num.sign==0))=false) (b:Zk.all.at (mnQ 0 f (rone (pls f g s t)) g)) (p:OwnT ptsF f g (pr1 A) ptR1) (β:Env) (w:World) (hh:∀ (k:Nat) (t:Thing),([]:List Thing)[k]?=some t→t.D w (β k)) :
  Calls Tryz.prog 12 ((loP D).map (SV.den β)).toArray w fun e w'=>∃ xs:List Pl,freshS β w 0 xs∧e=.returned ((tB' true).den (extE β 0 xs))∧newHold w' [] xs∧Below w.heap.size w w':=by
 exact spec_auto (evs:=loU D (.eq a e q)++loX D (.bun k hk y1 w1)++loYE D ([(sNum13 7).e]) (.one wp mm A fA oA b p)) (Ns:=loN) (m:=2000) Tryz.func12 hmA (fun β=>by kernel_rfl) (by kernel_rfl) β w hh
include D in
theorem lo_eq_bun_two (a:decide (fpr f g=0)=false) (e:eqRone (rone (ovQ f g)) g=true) (q:eqRone f g=true) (k:Zk) (hk:k.at (mnQ 0 f g h)) (y1:k.yes=true) (w1:wtB (acQ f g h)=true) (wp:wtB (pls f g s t)=false) (mm:MayC (rone (pls f g s t))) (A B:Pt) (fA:FitP A) (oA:(!((sidQ (rone (pls f g s t)) A).num.sign==0))=false) (fB:FitP B) (oB:(!((sidQ (rone (pls f g s t)) B).num.sign==0))=false) (b:Zk.all.at (mnQ 0 f (rone (pls f g s t)) g)) (p:OwnT ptsF f g (pr2 A B) ptR2) (β:Env) (w:World) (hh:∀ (k:Nat) (t:Thing),([]:List Thing)[k]?=some t→t.D w (β k)) :
  Calls Tryz.prog 12 ((loP D).map (SV.den β)).toArray w fun e w'=>∃ xs:List Pl,freshS β w 0 xs∧e=.returned ((tB' true).den (extE β 0 xs))∧newHold w' [] xs∧Below w.heap.size w w':=by
 exact spec_auto (evs:=loU D (.eq a e q)++loX D (.bun k hk y1 w1)++loYE D ([(sNum13 7).e]) (.two wp mm A B fA oA fB oB b p)) (Ns:=loN) (m:=2000) Tryz.func12 hmA (fun β=>by kernel_rfl) (by kernel_rfl) β w hh
include D in
theorem lo_eq_bun (a:decide (fpr f g=0)=false) (e:eqRone (rone (ovQ f g)) g=true) (q:eqRone f g=true) (k:Zk) (hk:k.at (mnQ 0 f g h)) (y1:k.yes=true) (w1:wtB (acQ f g h)=true) (y:LoY f g h s t) (β:Env) (w:World) (hh:∀ (k:Nat) (t:Thing),([]:List Thing)[k]?=some t→t.D w (β k)) :
  Calls Tryz.prog 12 ((loP D).map (SV.den β)).toArray w fun e w'=>∃ xs:List Pl,freshS β w 0 xs∧e=.returned ((tB' true).den (extE β 0 xs))∧newHold w' [] xs∧Below w.heap.size w w':=by
 cases y with
 | no wp=>exact lo_eq_bun_no D a e q k hk y1 w1 wp β w hh
 | nil wp mm kk k0 p=>exact lo_eq_bun_nil D a e q k hk y1 w1 wp mm kk k0 p β w hh
 | one wp mm A fA oA b p=>exact lo_eq_bun_one D a e q k hk y1 w1 wp mm A fA oA b p β w hh
 | two wp mm A B fA oA fB oB b p=>exact lo_eq_bun_two D a e q k hk y1 w1 wp mm A B fA oA fB oB b p β w hh
include D in
theorem lo_eq_non_no (a:decide (fpr f g=0)=false) (e:eqRone (rone (ovQ f g)) g=true) (q:eqRone f g=true) (k:Zk) (hk:k.at (mnQ 0 f g h)) (y1:k.yes=false) (w1:wtB (acQ f g h)=true) (wp:wtB (pls f g s t)=true) (β:Env) (w:World) (hh:∀ (k:Nat) (t:Thing),([]:List Thing)[k]?=some t→t.D w (β k)) :
  Calls Tryz.prog 12 ((loP D).map (SV.den β)).toArray w fun e w'=>∃ xs:List Pl,freshS β w 0 xs∧e=.returned ((tB' true).den (extE β 0 xs))∧newHold w' [] xs∧Below w.heap.size w w':=by
 exact spec_auto (evs:=loU D (.eq a e q)++loX D (.non k hk y1 w1)++loYE D ([]) (.no wp)) (Ns:=loN) (m:=2000) Tryz.func12 hmA (fun β=>by kernel_rfl) (by kernel_rfl) β w hh
include D in
theorem lo_eq_non_nil (a:decide (fpr f g=0)=false) (e:eqRone (rone (ovQ f g)) g=true) (q:eqRone f g=true) (k:Zk) (hk:k.at (mnQ 0 f g h)) (y1:k.yes=false) (w1:wtB (acQ f g h)=true) (wp:wtB (pls f g s t)=false) (mm:MayC (rone (pls f g s t))) (kk:Int) (k0:(!(kk==0))=true) (p:ValT ptsF f g (ptNil kk)) (β:Env) (w:World) (hh:∀ (k:Nat) (t:Thing),([]:List Thing)[k]?=some t→t.D w (β k)) :
  Calls Tryz.prog 12 ((loP D).map (SV.den β)).toArray w fun e w'=>∃ xs:List Pl,freshS β w 0 xs∧e=.returned ((tB' true).den (extE β 0 xs))∧newHold w' [] xs∧Below w.heap.size w w':=by
 exact spec_auto (evs:=loU D (.eq a e q)++loX D (.non k hk y1 w1)++loYE D ([(sNum13 7).e]) (.nil wp mm kk k0 p)) (Ns:=loN) (m:=2000) Tryz.func12 hmA (fun β=>by kernel_rfl) (by kernel_rfl) β w hh
include D in
theorem lo_eq_non_one (a:decide (fpr f g=0)=false) (e:eqRone (rone (ovQ f g)) g=true) (q:eqRone f g=true) (k:Zk) (hk:k.at (mnQ 0 f g h)) (y1:k.yes=false) (w1:wtB (acQ f g h)=true) (wp:wtB (pls f g s t)=false) (mm:MayC (rone (pls f g s t))) (A:Pt) (fA:FitP A) (oA:(!((sidQ (rone (pls f g s t)) A).num.sign==0))=false) (b:Zk.all.at (mnQ 0 f (rone (pls f g s t)) g)) (p:OwnT ptsF f g (pr1 A) ptR1) (β:Env) (w:World) (hh:∀ (k:Nat) (t:Thing),([]:List Thing)[k]?=some t→t.D w (β k)) :
  Calls Tryz.prog 12 ((loP D).map (SV.den β)).toArray w fun e w'=>∃ xs:List Pl,freshS β w 0 xs∧e=.returned ((tB' true).den (extE β 0 xs))∧newHold w' [] xs∧Below w.heap.size w w':=by
 exact spec_auto (evs:=loU D (.eq a e q)++loX D (.non k hk y1 w1)++loYE D ([(sNum13 7).e]) (.one wp mm A fA oA b p)) (Ns:=loN) (m:=2000) Tryz.func12 hmA (fun β=>by kernel_rfl) (by kernel_rfl) β w hh
include D in
theorem lo_eq_non_two (a:decide (fpr f g=0)=false) (e:eqRone (rone (ovQ f g)) g=true) (q:eqRone f g=true) (k:Zk) (hk:k.at (mnQ 0 f g h)) (y1:k.yes=false) (w1:wtB (acQ f g h)=true) (wp:wtB (pls f g s t)=false) (mm:MayC (rone (pls f g s t))) (A B:Pt) (fA:FitP A) (oA:(!((sidQ (rone (pls f g s t)) A).num.sign==0))=false) (fB:FitP B) (oB:(!((sidQ (rone (pls f g s t)) B).num.sign==0))=false) (b:Zk.all.at (mnQ 0 f (rone (pls f g s t)) g)) (p:OwnT ptsF f g (pr2 A B) ptR2) (β:Env) (w:World) (hh:∀ (k:Nat) (t:Thing),([]:List Thing)[k]?=some t→t.D w (β k)) :
  Calls Tryz.prog 12 ((loP D).map (SV.den β)).toArray w fun e w'=>∃ xs:List Pl,freshS β w 0 xs∧e=.returned ((tB' true).den (extE β 0 xs))∧newHold w' [] xs∧Below w.heap.size w w':=by
 exact spec_auto (evs:=loU D (.eq a e q)++loX D (.non k hk y1 w1)++loYE D ([(sNum13 7).e]) (.two wp mm A B fA oA fB oB b p)) (Ns:=loN) (m:=2000) Tryz.func12 hmA (fun β=>by kernel_rfl) (by kernel_rfl) β w hh
include D in
theorem lo_eq_non (a:decide (fpr f g=0)=false) (e:eqRone (rone (ovQ f g)) g=true) (q:eqRone f g=true) (k:Zk) (hk:k.at (mnQ 0 f g h)) (y1:k.yes=false) (w1:wtB (acQ f g h)=true) (y:LoY f g h s t) (β:Env) (w:World) (hh:∀ (k:Nat) (t:Thing),([]:List Thing)[k]?=some t→t.D w (β k)) :
  Calls Tryz.prog 12 ((loP D).map (SV.den β)).toArray w fun e w'=>∃ xs:List Pl,freshS β w 0 xs∧e=.returned ((tB' true).den (extE β 0 xs))∧newHold w' [] xs∧Below w.heap.size w w':=by
 cases y with
 | no wp=>exact lo_eq_non_no D a e q k hk y1 w1 wp β w hh
 | nil wp mm kk k0 p=>exact lo_eq_non_nil D a e q k hk y1 w1 wp mm kk k0 p β w hh
 | one wp mm A fA oA b p=>exact lo_eq_non_one D a e q k hk y1 w1 wp mm A fA oA b p β w hh
 | two wp mm A B fA oA fB oB b p=>exact lo_eq_non_two D a e q k hk y1 w1 wp mm A B fA oA fB oB b p β w hh
include D in
theorem lo_eq_yes_no (a:decide (fpr f g=0)=false) (e:eqRone (rone (ovQ f g)) g=true) (q:eqRone f g=true) (k:Zk) (hk:k.at (mnQ 0 f g h)) (y1:k.yes=false) (w1:wtB (acQ f g h)=false) (m:MayC (rone (acQ f g h))) (u1:decide (fpr (rone (acQ f g h)) f=0)=true) (u2:decide (fpr (rone (acQ f g h)) g=0)=true) (u3:decide (fpr (rone (acQ f g h)) h=0)=true) (my:wtB (pls f g s t)=false→MayC (rone (pls f g s t))∧decide (fpr (rone (acQ f g h)) (rone (pls f g s t))=0)=true) (wp:wtB (pls f g s t)=true) (β:Env) (w:World) (hh:∀ (k:Nat) (t:Thing),([]:List Thing)[k]?=some t→t.D w (β k)) :
  Calls Tryz.prog 12 ((loP D).map (SV.den β)).toArray w fun e w'=>∃ xs:List Pl,freshS β w 0 xs∧e=.returned ((tB' true).den (extE β 0 xs))∧newHold w' [] xs∧Below w.heap.size w w':=by
 exact spec_auto (evs:=loU D (.eq a e q)++loX D (.yes k hk y1 w1 m u1 u2 u3)++loYE D ([]) (.no wp)) (Ns:=loN) (m:=2000) Tryz.func12 hmA (fun β=>by kernel_rfl) (by kernel_rfl) β w hh
include D in
theorem lo_eq_yes_nil (a:decide (fpr f g=0)=false) (e:eqRone (rone (ovQ f g)) g=true) (q:eqRone f g=true) (k:Zk) (hk:k.at (mnQ 0 f g h)) (y1:k.yes=false) (w1:wtB (acQ f g h)=false) (m:MayC (rone (acQ f g h))) (u1:decide (fpr (rone (acQ f g h)) f=0)=true) (u2:decide (fpr (rone (acQ f g h)) g=0)=true) (u3:decide (fpr (rone (acQ f g h)) h=0)=true) (my:wtB (pls f g s t)=false→MayC (rone (pls f g s t))∧decide (fpr (rone (acQ f g h)) (rone (pls f g s t))=0)=true) (wp:wtB (pls f g s t)=false) (mm:MayC (rone (pls f g s t))) (kk:Int) (k0:(!(kk==0))=true) (p:ValT ptsF f g (ptNil kk)) (β:Env) (w:World) (hh:∀ (k:Nat) (t:Thing),([]:List Thing)[k]?=some t→t.D w (β k)) :
  Calls Tryz.prog 12 ((loP D).map (SV.den β)).toArray w fun e w'=>∃ xs:List Pl,freshS β w 0 xs∧e=.returned ((tB' true).den (extE β 0 xs))∧newHold w' [] xs∧Below w.heap.size w w':=by
 exact spec_auto (evs:=loU D (.eq a e q)++loX D (.yes k hk y1 w1 m u1 u2 u3)++loYE D ([(sNum13 0).e,(sMUp m (my wp).1 (my wp).2).e,(sNum13 0).e]) (.nil wp mm kk k0 p)) (Ns:=loN) (m:=2000) Tryz.func12 hmA (fun β=>by kernel_rfl) (by kernel_rfl) β w hh
include D in
theorem lo_eq_yes_one (a:decide (fpr f g=0)=false) (e:eqRone (rone (ovQ f g)) g=true) (q:eqRone f g=true) (k:Zk) (hk:k.at (mnQ 0 f g h)) (y1:k.yes=false) (w1:wtB (acQ f g h)=false) (m:MayC (rone (acQ f g h))) (u1:decide (fpr (rone (acQ f g h)) f=0)=true) (u2:decide (fpr (rone (acQ f g h)) g=0)=true) (u3:decide (fpr (rone (acQ f g h)) h=0)=true) (my:wtB (pls f g s t)=false→MayC (rone (pls f g s t))∧decide (fpr (rone (acQ f g h)) (rone (pls f g s t))=0)=true) (wp:wtB (pls f g s t)=false) (mm:MayC (rone (pls f g s t))) (A:Pt) (fA:FitP A) (oA:(!((sidQ (rone (pls f g s t)) A).num.sign==0))=false) (b:Zk.all.at (mnQ 0 f (rone (pls f g s t)) g)) (p:OwnT ptsF f g (pr1 A) ptR1) (β:Env) (w:World) (hh:∀ (k:Nat) (t:Thing),([]:List Thing)[k]?=some t→t.D w (β k)) :
  Calls Tryz.prog 12 ((loP D).map (SV.den β)).toArray w fun e w'=>∃ xs:List Pl,freshS β w 0 xs∧e=.returned ((tB' true).den (extE β 0 xs))∧newHold w' [] xs∧Below w.heap.size w w':=by
 exact spec_auto (evs:=loU D (.eq a e q)++loX D (.yes k hk y1 w1 m u1 u2 u3)++loYE D ([(sNum13 0).e,(sMUp m (my wp).1 (my wp).2).e,(sNum13 0).e]) (.one wp mm A fA oA b p)) (Ns:=loN) (m:=2000) Tryz.func12 hmA (fun β=>by kernel_rfl) (by kernel_rfl) β w hh
include D in
theorem lo_eq_yes_two (a:decide (fpr f g=0)=false) (e:eqRone (rone (ovQ f g)) g=true) (q:eqRone f g=true) (k:Zk) (hk:k.at (mnQ 0 f g h)) (y1:k.yes=false) (w1:wtB (acQ f g h)=false) (m:MayC (rone (acQ f g h))) (u1:decide (fpr (rone (acQ f g h)) f=0)=true) (u2:decide (fpr (rone (acQ f g h)) g=0)=true) (u3:decide (fpr (rone (acQ f g h)) h=0)=true) (my:wtB (pls f g s t)=false→MayC (rone (pls f g s t))∧decide (fpr (rone (acQ f g h)) (rone (pls f g s t))=0)=true) (wp:wtB (pls f g s t)=false) (mm:MayC (rone (pls f g s t))) (A B:Pt) (fA:FitP A) (oA:(!((sidQ (rone (pls f g s t)) A).num.sign==0))=false) (fB:FitP B) (oB:(!((sidQ (rone (pls f g s t)) B).num.sign==0))=false) (b:Zk.all.at (mnQ 0 f (rone (pls f g s t)) g)) (p:OwnT ptsF f g (pr2 A B) ptR2) (β:Env) (w:World) (hh:∀ (k:Nat) (t:Thing),([]:List Thing)[k]?=some t→t.D w (β k)) :
  Calls Tryz.prog 12 ((loP D).map (SV.den β)).toArray w fun e w'=>∃ xs:List Pl,freshS β w 0 xs∧e=.returned ((tB' true).den (extE β 0 xs))∧newHold w' [] xs∧Below w.heap.size w w':=by
 exact spec_auto (evs:=loU D (.eq a e q)++loX D (.yes k hk y1 w1 m u1 u2 u3)++loYE D ([(sNum13 0).e,(sMUp m (my wp).1 (my wp).2).e,(sNum13 0).e]) (.two wp mm A B fA oA fB oB b p)) (Ns:=loN) (m:=2000) Tryz.func12 hmA (fun β=>by kernel_rfl) (by kernel_rfl) β w hh
include D in
theorem lo_eq_yes (a:decide (fpr f g=0)=false) (e:eqRone (rone (ovQ f g)) g=true) (q:eqRone f g=true) (k:Zk) (hk:k.at (mnQ 0 f g h)) (y1:k.yes=false) (w1:wtB (acQ f g h)=false) (m:MayC (rone (acQ f g h))) (u1:decide (fpr (rone (acQ f g h)) f=0)=true) (u2:decide (fpr (rone (acQ f g h)) g=0)=true) (u3:decide (fpr (rone (acQ f g h)) h=0)=true) (my:wtB (pls f g s t)=false→MayC (rone (pls f g s t))∧decide (fpr (rone (acQ f g h)) (rone (pls f g s t))=0)=true) (y:LoY f g h s t) (β:Env) (w:World) (hh:∀ (k:Nat) (t:Thing),([]:List Thing)[k]?=some t→t.D w (β k)) :
  Calls Tryz.prog 12 ((loP D).map (SV.den β)).toArray w fun e w'=>∃ xs:List Pl,freshS β w 0 xs∧e=.returned ((tB' true).den (extE β 0 xs))∧newHold w' [] xs∧Below w.heap.size w w':=by
 cases y with
 | no wp=>exact lo_eq_yes_no D a e q k hk y1 w1 m u1 u2 u3 my wp β w hh
 | nil wp mm kk k0 p=>exact lo_eq_yes_nil D a e q k hk y1 w1 m u1 u2 u3 my wp mm kk k0 p β w hh
 | one wp mm A fA oA b p=>exact lo_eq_yes_one D a e q k hk y1 w1 m u1 u2 u3 my wp mm A fA oA b p β w hh
 | two wp mm A B fA oA fB oB b p=>exact lo_eq_yes_two D a e q k hk y1 w1 m u1 u2 u3 my wp mm A B fA oA fB oB b p β w hh
end
section
variable {f g h:RQ} {s t:Rat} (D:LoD f g h s t)
include D in
theorem lo_ne_bun_no (a:decide (fpr f g=0)=false) (e:eqRone (rone (ovQ f g)) g=false) (q:eqRone f g=false) (k:Zk) (hk:k.at (mnQ 0 f g h)) (y1:k.yes=true) (w1:wtB (acQ f g h)=true) (wp:wtB (pls f g s t)=true) (β:Env) (w:World) (hh:∀ (k:Nat) (t:Thing),([]:List Thing)[k]?=some t→t.D w (β k)) :
  Calls Tryz.prog 12 ((loP D).map (SV.den β)).toArray w fun e w'=>∃ xs:List Pl,freshS β w 0 xs∧e=.returned ((tB' true).den (extE β 0 xs))∧newHold w' [] xs∧Below w.heap.size w w':=by
 exact spec_auto (evs:=loU D (.ne a e q)++loX D (.bun k hk y1 w1)++loYE D ([]) (.no wp)) (Ns:=loN) (m:=2000) Tryz.func12 hmA (fun β=>by kernel_rfl) (by kernel_rfl) β w hh
include D in
theorem lo_ne_bun_nil (a:decide (fpr f g=0)=false) (e:eqRone (rone (ovQ f g)) g=false) (q:eqRone f g=false) (k:Zk) (hk:k.at (mnQ 0 f g h)) (y1:k.yes=true) (w1:wtB (acQ f g h)=true) (wp:wtB (pls f g s t)=false) (mm:MayC (rone (pls f g s t))) (kk:Int) (k0:(!(kk==0))=true) (p:ValT ptsF f g (ptNil kk)) (β:Env) (w:World) (hh:∀ (k:Nat) (t:Thing),([]:List Thing)[k]?=some t→t.D w (β k)) :
  Calls Tryz.prog 12 ((loP D).map (SV.den β)).toArray w fun e w'=>∃ xs:List Pl,freshS β w 0 xs∧e=.returned ((tB' true).den (extE β 0 xs))∧newHold w' [] xs∧Below w.heap.size w w':=by
 exact spec_auto (evs:=loU D (.ne a e q)++loX D (.bun k hk y1 w1)++loYE D ([(sNum13 7).e]) (.nil wp mm kk k0 p)) (Ns:=loN) (m:=2000) Tryz.func12 hmA (fun β=>by kernel_rfl) (by kernel_rfl) β w hh
include D in
theorem lo_ne_bun_one (a:decide (fpr f g=0)=false) (e:eqRone (rone (ovQ f g)) g=false) (q:eqRone f g=false) (k:Zk) (hk:k.at (mnQ 0 f g h)) (y1:k.yes=true) (w1:wtB (acQ f g h)=true) (wp:wtB (pls f g s t)=false) (mm:MayC (rone (pls f g s t))) (A:Pt) (fA:FitP A) (oA:(!((sidQ (rone (pls f g s t)) A).num.sign==0))=false) (b:Zk.all.at (mnQ 0 f (rone (pls f g s t)) g)) (p:OwnT ptsF f g (pr1 A) ptR1) (β:Env) (w:World) (hh:∀ (k:Nat) (t:Thing),([]:List Thing)[k]?=some t→t.D w (β k)) :
  Calls Tryz.prog 12 ((loP D).map (SV.den β)).toArray w fun e w'=>∃ xs:List Pl,freshS β w 0 xs∧e=.returned ((tB' true).den (extE β 0 xs))∧newHold w' [] xs∧Below w.heap.size w w':=by
 exact spec_auto (evs:=loU D (.ne a e q)++loX D (.bun k hk y1 w1)++loYE D ([(sNum13 7).e]) (.one wp mm A fA oA b p)) (Ns:=loN) (m:=2000) Tryz.func12 hmA (fun β=>by kernel_rfl) (by kernel_rfl) β w hh
include D in
theorem lo_ne_bun_two (a:decide (fpr f g=0)=false) (e:eqRone (rone (ovQ f g)) g=false) (q:eqRone f g=false) (k:Zk) (hk:k.at (mnQ 0 f g h)) (y1:k.yes=true) (w1:wtB (acQ f g h)=true) (wp:wtB (pls f g s t)=false) (mm:MayC (rone (pls f g s t))) (A B:Pt) (fA:FitP A) (oA:(!((sidQ (rone (pls f g s t)) A).num.sign==0))=false) (fB:FitP B) (oB:(!((sidQ (rone (pls f g s t)) B).num.sign==0))=false) (b:Zk.all.at (mnQ 0 f (rone (pls f g s t)) g)) (p:OwnT ptsF f g (pr2 A B) ptR2) (β:Env) (w:World) (hh:∀ (k:Nat) (t:Thing),([]:List Thing)[k]?=some t→t.D w (β k)) :
  Calls Tryz.prog 12 ((loP D).map (SV.den β)).toArray w fun e w'=>∃ xs:List Pl,freshS β w 0 xs∧e=.returned ((tB' true).den (extE β 0 xs))∧newHold w' [] xs∧Below w.heap.size w w':=by
 exact spec_auto (evs:=loU D (.ne a e q)++loX D (.bun k hk y1 w1)++loYE D ([(sNum13 7).e]) (.two wp mm A B fA oA fB oB b p)) (Ns:=loN) (m:=2000) Tryz.func12 hmA (fun β=>by kernel_rfl) (by kernel_rfl) β w hh
include D in
theorem lo_ne_bun (a:decide (fpr f g=0)=false) (e:eqRone (rone (ovQ f g)) g=false) (q:eqRone f g=false) (k:Zk) (hk:k.at (mnQ 0 f g h)) (y1:k.yes=true) (w1:wtB (acQ f g h)=true) (y:LoY f g h s t) (β:Env) (w:World) (hh:∀ (k:Nat) (t:Thing),([]:List Thing)[k]?=some t→t.D w (β k)) :
  Calls Tryz.prog 12 ((loP D).map (SV.den β)).toArray w fun e w'=>∃ xs:List Pl,freshS β w 0 xs∧e=.returned ((tB' true).den (extE β 0 xs))∧newHold w' [] xs∧Below w.heap.size w w':=by
 cases y with
 | no wp=>exact lo_ne_bun_no D a e q k hk y1 w1 wp β w hh
 | nil wp mm kk k0 p=>exact lo_ne_bun_nil D a e q k hk y1 w1 wp mm kk k0 p β w hh
 | one wp mm A fA oA b p=>exact lo_ne_bun_one D a e q k hk y1 w1 wp mm A fA oA b p β w hh
 | two wp mm A B fA oA fB oB b p=>exact lo_ne_bun_two D a e q k hk y1 w1 wp mm A B fA oA fB oB b p β w hh
include D in
theorem lo_ne_non_no (a:decide (fpr f g=0)=false) (e:eqRone (rone (ovQ f g)) g=false) (q:eqRone f g=false) (k:Zk) (hk:k.at (mnQ 0 f g h)) (y1:k.yes=false) (w1:wtB (acQ f g h)=true) (wp:wtB (pls f g s t)=true) (β:Env) (w:World) (hh:∀ (k:Nat) (t:Thing),([]:List Thing)[k]?=some t→t.D w (β k)) :
  Calls Tryz.prog 12 ((loP D).map (SV.den β)).toArray w fun e w'=>∃ xs:List Pl,freshS β w 0 xs∧e=.returned ((tB' true).den (extE β 0 xs))∧newHold w' [] xs∧Below w.heap.size w w':=by
 exact spec_auto (evs:=loU D (.ne a e q)++loX D (.non k hk y1 w1)++loYE D ([]) (.no wp)) (Ns:=loN) (m:=2000) Tryz.func12 hmA (fun β=>by kernel_rfl) (by kernel_rfl) β w hh
include D in
theorem lo_ne_non_nil (a:decide (fpr f g=0)=false) (e:eqRone (rone (ovQ f g)) g=false) (q:eqRone f g=false) (k:Zk) (hk:k.at (mnQ 0 f g h)) (y1:k.yes=false) (w1:wtB (acQ f g h)=true) (wp:wtB (pls f g s t)=false) (mm:MayC (rone (pls f g s t))) (kk:Int) (k0:(!(kk==0))=true) (p:ValT ptsF f g (ptNil kk)) (β:Env) (w:World) (hh:∀ (k:Nat) (t:Thing),([]:List Thing)[k]?=some t→t.D w (β k)) :
  Calls Tryz.prog 12 ((loP D).map (SV.den β)).toArray w fun e w'=>∃ xs:List Pl,freshS β w 0 xs∧e=.returned ((tB' true).den (extE β 0 xs))∧newHold w' [] xs∧Below w.heap.size w w':=by
 exact spec_auto (evs:=loU D (.ne a e q)++loX D (.non k hk y1 w1)++loYE D ([(sNum13 7).e]) (.nil wp mm kk k0 p)) (Ns:=loN) (m:=2000) Tryz.func12 hmA (fun β=>by kernel_rfl) (by kernel_rfl) β w hh
include D in
theorem lo_ne_non_one (a:decide (fpr f g=0)=false) (e:eqRone (rone (ovQ f g)) g=false) (q:eqRone f g=false) (k:Zk) (hk:k.at (mnQ 0 f g h)) (y1:k.yes=false) (w1:wtB (acQ f g h)=true) (wp:wtB (pls f g s t)=false) (mm:MayC (rone (pls f g s t))) (A:Pt) (fA:FitP A) (oA:(!((sidQ (rone (pls f g s t)) A).num.sign==0))=false) (b:Zk.all.at (mnQ 0 f (rone (pls f g s t)) g)) (p:OwnT ptsF f g (pr1 A) ptR1) (β:Env) (w:World) (hh:∀ (k:Nat) (t:Thing),([]:List Thing)[k]?=some t→t.D w (β k)) :
  Calls Tryz.prog 12 ((loP D).map (SV.den β)).toArray w fun e w'=>∃ xs:List Pl,freshS β w 0 xs∧e=.returned ((tB' true).den (extE β 0 xs))∧newHold w' [] xs∧Below w.heap.size w w':=by
 exact spec_auto (evs:=loU D (.ne a e q)++loX D (.non k hk y1 w1)++loYE D ([(sNum13 7).e]) (.one wp mm A fA oA b p)) (Ns:=loN) (m:=2000) Tryz.func12 hmA (fun β=>by kernel_rfl) (by kernel_rfl) β w hh
include D in
theorem lo_ne_non_two (a:decide (fpr f g=0)=false) (e:eqRone (rone (ovQ f g)) g=false) (q:eqRone f g=false) (k:Zk) (hk:k.at (mnQ 0 f g h)) (y1:k.yes=false) (w1:wtB (acQ f g h)=true) (wp:wtB (pls f g s t)=false) (mm:MayC (rone (pls f g s t))) (A B:Pt) (fA:FitP A) (oA:(!((sidQ (rone (pls f g s t)) A).num.sign==0))=false) (fB:FitP B) (oB:(!((sidQ (rone (pls f g s t)) B).num.sign==0))=false) (b:Zk.all.at (mnQ 0 f (rone (pls f g s t)) g)) (p:OwnT ptsF f g (pr2 A B) ptR2) (β:Env) (w:World) (hh:∀ (k:Nat) (t:Thing),([]:List Thing)[k]?=some t→t.D w (β k)) :
  Calls Tryz.prog 12 ((loP D).map (SV.den β)).toArray w fun e w'=>∃ xs:List Pl,freshS β w 0 xs∧e=.returned ((tB' true).den (extE β 0 xs))∧newHold w' [] xs∧Below w.heap.size w w':=by
 exact spec_auto (evs:=loU D (.ne a e q)++loX D (.non k hk y1 w1)++loYE D ([(sNum13 7).e]) (.two wp mm A B fA oA fB oB b p)) (Ns:=loN) (m:=2000) Tryz.func12 hmA (fun β=>by kernel_rfl) (by kernel_rfl) β w hh
include D in
theorem lo_ne_non (a:decide (fpr f g=0)=false) (e:eqRone (rone (ovQ f g)) g=false) (q:eqRone f g=false) (k:Zk) (hk:k.at (mnQ 0 f g h)) (y1:k.yes=false) (w1:wtB (acQ f g h)=true) (y:LoY f g h s t) (β:Env) (w:World) (hh:∀ (k:Nat) (t:Thing),([]:List Thing)[k]?=some t→t.D w (β k)) :
  Calls Tryz.prog 12 ((loP D).map (SV.den β)).toArray w fun e w'=>∃ xs:List Pl,freshS β w 0 xs∧e=.returned ((tB' true).den (extE β 0 xs))∧newHold w' [] xs∧Below w.heap.size w w':=by
 cases y with
 | no wp=>exact lo_ne_non_no D a e q k hk y1 w1 wp β w hh
 | nil wp mm kk k0 p=>exact lo_ne_non_nil D a e q k hk y1 w1 wp mm kk k0 p β w hh
 | one wp mm A fA oA b p=>exact lo_ne_non_one D a e q k hk y1 w1 wp mm A fA oA b p β w hh
 | two wp mm A B fA oA fB oB b p=>exact lo_ne_non_two D a e q k hk y1 w1 wp mm A B fA oA fB oB b p β w hh
include D in
theorem lo_ne_yes_no (a:decide (fpr f g=0)=false) (e:eqRone (rone (ovQ f g)) g=false) (q:eqRone f g=false) (k:Zk) (hk:k.at (mnQ 0 f g h)) (y1:k.yes=false) (w1:wtB (acQ f g h)=false) (m:MayC (rone (acQ f g h))) (u1:decide (fpr (rone (acQ f g h)) f=0)=true) (u2:decide (fpr (rone (acQ f g h)) g=0)=true) (u3:decide (fpr (rone (acQ f g h)) h=0)=true) (my:wtB (pls f g s t)=false→MayC (rone (pls f g s t))∧decide (fpr (rone (acQ f g h)) (rone (pls f g s t))=0)=true) (wp:wtB (pls f g s t)=true) (β:Env) (w:World) (hh:∀ (k:Nat) (t:Thing),([]:List Thing)[k]?=some t→t.D w (β k)) :
  Calls Tryz.prog 12 ((loP D).map (SV.den β)).toArray w fun e w'=>∃ xs:List Pl,freshS β w 0 xs∧e=.returned ((tB' true).den (extE β 0 xs))∧newHold w' [] xs∧Below w.heap.size w w':=by
 exact spec_auto (evs:=loU D (.ne a e q)++loX D (.yes k hk y1 w1 m u1 u2 u3)++loYE D ([]) (.no wp)) (Ns:=loN) (m:=2000) Tryz.func12 hmA (fun β=>by kernel_rfl) (by kernel_rfl) β w hh
include D in
theorem lo_ne_yes_nil (a:decide (fpr f g=0)=false) (e:eqRone (rone (ovQ f g)) g=false) (q:eqRone f g=false) (k:Zk) (hk:k.at (mnQ 0 f g h)) (y1:k.yes=false) (w1:wtB (acQ f g h)=false) (m:MayC (rone (acQ f g h))) (u1:decide (fpr (rone (acQ f g h)) f=0)=true) (u2:decide (fpr (rone (acQ f g h)) g=0)=true) (u3:decide (fpr (rone (acQ f g h)) h=0)=true) (my:wtB (pls f g s t)=false→MayC (rone (pls f g s t))∧decide (fpr (rone (acQ f g h)) (rone (pls f g s t))=0)=true) (wp:wtB (pls f g s t)=false) (mm:MayC (rone (pls f g s t))) (kk:Int) (k0:(!(kk==0))=true) (p:ValT ptsF f g (ptNil kk)) (β:Env) (w:World) (hh:∀ (k:Nat) (t:Thing),([]:List Thing)[k]?=some t→t.D w (β k)) :
  Calls Tryz.prog 12 ((loP D).map (SV.den β)).toArray w fun e w'=>∃ xs:List Pl,freshS β w 0 xs∧e=.returned ((tB' true).den (extE β 0 xs))∧newHold w' [] xs∧Below w.heap.size w w':=by
 exact spec_auto (evs:=loU D (.ne a e q)++loX D (.yes k hk y1 w1 m u1 u2 u3)++loYE D ([(sNum13 0).e,(sMUp m (my wp).1 (my wp).2).e,(sNum13 0).e]) (.nil wp mm kk k0 p)) (Ns:=loN) (m:=2000) Tryz.func12 hmA (fun β=>by kernel_rfl) (by kernel_rfl) β w hh
include D in
theorem lo_ne_yes_one (a:decide (fpr f g=0)=false) (e:eqRone (rone (ovQ f g)) g=false) (q:eqRone f g=false) (k:Zk) (hk:k.at (mnQ 0 f g h)) (y1:k.yes=false) (w1:wtB (acQ f g h)=false) (m:MayC (rone (acQ f g h))) (u1:decide (fpr (rone (acQ f g h)) f=0)=true) (u2:decide (fpr (rone (acQ f g h)) g=0)=true) (u3:decide (fpr (rone (acQ f g h)) h=0)=true) (my:wtB (pls f g s t)=false→MayC (rone (pls f g s t))∧decide (fpr (rone (acQ f g h)) (rone (pls f g s t))=0)=true) (wp:wtB (pls f g s t)=false) (mm:MayC (rone (pls f g s t))) (A:Pt) (fA:FitP A) (oA:(!((sidQ (rone (pls f g s t)) A).num.sign==0))=false) (b:Zk.all.at (mnQ 0 f (rone (pls f g s t)) g)) (p:OwnT ptsF f g (pr1 A) ptR1) (β:Env) (w:World) (hh:∀ (k:Nat) (t:Thing),([]:List Thing)[k]?=some t→t.D w (β k)) :
  Calls Tryz.prog 12 ((loP D).map (SV.den β)).toArray w fun e w'=>∃ xs:List Pl,freshS β w 0 xs∧e=.returned ((tB' true).den (extE β 0 xs))∧newHold w' [] xs∧Below w.heap.size w w':=by
 exact spec_auto (evs:=loU D (.ne a e q)++loX D (.yes k hk y1 w1 m u1 u2 u3)++loYE D ([(sNum13 0).e,(sMUp m (my wp).1 (my wp).2).e,(sNum13 0).e]) (.one wp mm A fA oA b p)) (Ns:=loN) (m:=2000) Tryz.func12 hmA (fun β=>by kernel_rfl) (by kernel_rfl) β w hh
include D in
theorem lo_ne_yes_two (a:decide (fpr f g=0)=false) (e:eqRone (rone (ovQ f g)) g=false) (q:eqRone f g=false) (k:Zk) (hk:k.at (mnQ 0 f g h)) (y1:k.yes=false) (w1:wtB (acQ f g h)=false) (m:MayC (rone (acQ f g h))) (u1:decide (fpr (rone (acQ f g h)) f=0)=true) (u2:decide (fpr (rone (acQ f g h)) g=0)=true) (u3:decide (fpr (rone (acQ f g h)) h=0)=true) (my:wtB (pls f g s t)=false→MayC (rone (pls f g s t))∧decide (fpr (rone (acQ f g h)) (rone (pls f g s t))=0)=true) (wp:wtB (pls f g s t)=false) (mm:MayC (rone (pls f g s t))) (A B:Pt) (fA:FitP A) (oA:(!((sidQ (rone (pls f g s t)) A).num.sign==0))=false) (fB:FitP B) (oB:(!((sidQ (rone (pls f g s t)) B).num.sign==0))=false) (b:Zk.all.at (mnQ 0 f (rone (pls f g s t)) g)) (p:OwnT ptsF f g (pr2 A B) ptR2) (β:Env) (w:World) (hh:∀ (k:Nat) (t:Thing),([]:List Thing)[k]?=some t→t.D w (β k)) :
  Calls Tryz.prog 12 ((loP D).map (SV.den β)).toArray w fun e w'=>∃ xs:List Pl,freshS β w 0 xs∧e=.returned ((tB' true).den (extE β 0 xs))∧newHold w' [] xs∧Below w.heap.size w w':=by
 exact spec_auto (evs:=loU D (.ne a e q)++loX D (.yes k hk y1 w1 m u1 u2 u3)++loYE D ([(sNum13 0).e,(sMUp m (my wp).1 (my wp).2).e,(sNum13 0).e]) (.two wp mm A B fA oA fB oB b p)) (Ns:=loN) (m:=2000) Tryz.func12 hmA (fun β=>by kernel_rfl) (by kernel_rfl) β w hh
include D in
theorem lo_ne_yes (a:decide (fpr f g=0)=false) (e:eqRone (rone (ovQ f g)) g=false) (q:eqRone f g=false) (k:Zk) (hk:k.at (mnQ 0 f g h)) (y1:k.yes=false) (w1:wtB (acQ f g h)=false) (m:MayC (rone (acQ f g h))) (u1:decide (fpr (rone (acQ f g h)) f=0)=true) (u2:decide (fpr (rone (acQ f g h)) g=0)=true) (u3:decide (fpr (rone (acQ f g h)) h=0)=true) (my:wtB (pls f g s t)=false→MayC (rone (pls f g s t))∧decide (fpr (rone (acQ f g h)) (rone (pls f g s t))=0)=true) (y:LoY f g h s t) (β:Env) (w:World) (hh:∀ (k:Nat) (t:Thing),([]:List Thing)[k]?=some t→t.D w (β k)) :
  Calls Tryz.prog 12 ((loP D).map (SV.den β)).toArray w fun e w'=>∃ xs:List Pl,freshS β w 0 xs∧e=.returned ((tB' true).den (extE β 0 xs))∧newHold w' [] xs∧Below w.heap.size w w':=by
 cases y with
 | no wp=>exact lo_ne_yes_no D a e q k hk y1 w1 m u1 u2 u3 my wp β w hh
 | nil wp mm kk k0 p=>exact lo_ne_yes_nil D a e q k hk y1 w1 m u1 u2 u3 my wp mm kk k0 p β w hh
 | one wp mm A fA oA b p=>exact lo_ne_yes_one D a e q k hk y1 w1 m u1 u2 u3 my wp mm A fA oA b p β w hh
 | two wp mm A B fA oA fB oB b p=>exact lo_ne_yes_two D a e q k hk y1 w1 m u1 u2 u3 my wp mm A B fA oA fB oB b p β w hh
end
theorem sm14_rsz {f:RQ} (hf:MayC f) (h:sm14 (.ok f hf)=true):RSz 14 f:=by
 have h2:smB 14 (fR f.a) (fR f.c)=true∧smB 14 (fR f.b.re) (fR f.b.im)=true:=by
  have:=h
  unfold sm14 at this
  rw [Bool.and_eq_true] at this
  exact this
 obtain ⟨a,c⟩:=mpSmB_sz h2.1
 exact ⟨a,mpSmB_sz h2.2,c⟩
abbrev LoOk {f g h:RQ} {s t:Rat} (D:LoD f g h s t) (W:World):Prop:=Calls Tryz.prog 12 ((loP D).map (SV.den idE)).toArray W fun e w'=>e=.returned (.bool true)∧Below W.heap.size W w'
theorem lo_yes {f g h:RQ} {s t:Rat} {D:LoD f g h s t} {W:World} (k:Calls Tryz.prog 12 ((loP D).map (SV.den idE)).toArray W fun e w'=>∃ xs:List Pl,freshS idE W 0 xs∧e=.returned ((tB' true).den (extE idE 0 xs))∧newHold w' [] xs∧Below W.heap.size W w'):LoOk D W :=
 k.mono fun e w' ⟨xs,_,h2,_,h4⟩=>⟨h2,h4⟩
theorem no_th (W:World):∀ (k:Nat) (t:Thing),([]:List Thing)[k]?=some t→t.D W (idE k):=fun k t h=>by simp at h
theorem lo_all {f g h:RQ} {s t:Rat} (D:LoD f g h s t) (u:LoU f g) (x:LoX f g h) (hx:wtB (acQ f g h)=false→wtB (pls f g s t)=false→MayC (rone (pls f g s t))∧decide (fpr (rone (acQ f g h)) (rone (pls f g s t))=0)=true) (y:LoY f g h s t) (W:World):LoOk D W:=by
 cases x with
 | bun k hk y1 w1 =>
  cases u with
  | up a e=>exact lo_yes (lo_up_bun D a e k hk y1 w1 y idE W (no_th W))
  | eq a e q=>exact lo_yes (lo_eq_bun D a e q k hk y1 w1 y idE W (no_th W))
  | ne a e q=>exact lo_yes (lo_ne_bun D a e q k hk y1 w1 y idE W (no_th W))
 | non k hk y1 w1 =>
  cases u with
  | up a e=>exact lo_yes (lo_up_non D a e k hk y1 w1 y idE W (no_th W))
  | eq a e q=>exact lo_yes (lo_eq_non D a e q k hk y1 w1 y idE W (no_th W))
  | ne a e q=>exact lo_yes (lo_ne_non D a e q k hk y1 w1 y idE W (no_th W))
 | yes k hk y1 w1 m u1 u2 u3 =>
  cases u with
  | up a e=>exact lo_yes (lo_up_yes D a e k hk y1 w1 m u1 u2 u3 (hx w1) y idE W (no_th W))
  | eq a e q=>exact lo_yes (lo_eq_yes D a e q k hk y1 w1 m u1 u2 u3 (hx w1) y idE W (no_th W))
  | ne a e q=>exact lo_yes (lo_ne_yes D a e q k hk y1 w1 m u1 u2 u3 (hx w1) y idE W (no_th W))
theorem ov_wtB {f g:RQ} (hf:MayC f) (hg:MayC g):wtB (ovQ f g)=false:=by
 unfold wtB
 rw [ov_pow hf.ff]
 exact hg.pow
section
variable {f g h:RQ} {s t:Rat} (hf:MayC f) (hg:MayC g) (hh:MayC h) (hs:Fit s) (ht:Fit t) (sf:RSz 14 f) (sg:RSz 14 g) (sh:RSz 14 h) (ss:Sz 14 s) (st:Sz 14 t)
theorem loD_of (fw:fewB3 (.ok f hf) (.ok g hg) (.ok h hh)=true) (sm:smB 14 (fR s) (fR t)=true) (sf:RSz 14 f) (sg:RSz 14 g) (hs:Fit s) (ht:Fit t):LoD f g h s t :=
 have wa:=ov_wtB hf hg
 have ma:MayC (rone (ovQ f g)):=may_rone (ov14 sf sg hf.ff) wa
 ⟨hf,hg,hh,hs,ht,fw,sm,wa,ma,ov_wtB hf ma,ov_twice hf hg (rby_ne wa),ov_wtB hf hf⟩
include hf hg in
theorem loU_of:Nonempty (LoU f g):=by
 cases a:decide (fpr f g=0) with
 | true=>exact ⟨.up a (eqRone_iff.2 (ov_up hg (of_decide_eq_true a)))⟩
 | false =>
  cases q:eqRone f g with
  | true =>
   have e:=eqRone_iff.1 q
   subst e
   exact ⟨.eq a (eqRone_iff.2 (ov_self hf)) q⟩
  | false =>
   refine ⟨.ne a ?_ q⟩
   cases e:eqRone (rone (ovQ f g)) g with
   | false=>rfl
   | true =>
    rcases ov_stay hf hg (rby_ne (ov_wtB hf hg)) (eqRone_iff.1 e) with k | k
    · exact absurd k (of_decide_eq_false a)
    · rw [eqRone_iff.2 k] at q
      cases q
include sf sg sh in
theorem loX_of:Nonempty (LoX f g h):=by
 obtain ⟨k,hk⟩:=Zk.ex (mnQ 0 f g h)
 cases y:k.yes with
 | true=>exact ⟨.bun k hk y (bun_ac (zk_no hk y))⟩
 | false =>
  cases w:wtB (acQ f g h) with
  | true=>exact ⟨.non k hk y w⟩
  | false =>
   exact ⟨.yes k hk y w (may_rone (ac14 sf sg sh) w) (decide_eq_true (rnm_up _ (ac_up1 f g h))) (decide_eq_true (rnm_up _ (ac_up2 f g h))) (decide_eq_true (rnm_up _ (ac_up3 f g h)))⟩
include sf sg ss st in
theorem loM_of (w1:wtB (acQ f g h)=false) (w2:wtB (pls f g s t)=false):MayC (rone (pls f g s t))∧decide (fpr (rone (acQ f g h)) (rone (pls f g s t))=0)=true :=
 ⟨may_rone (mix14 sf sg ss st) w2,decide_eq_true (mix_up s t _ (rnm_up _ (ac_up1 f g h)) (rnm_up _ (ac_up2 f g h)))⟩
include hf hg sf sg ss st in
theorem loY_of:Nonempty (LoY f g h s t):=by
 cases w:wtB (pls f g s t) with
 | true=>exact ⟨.no w⟩
 | false =>
  have m:=may_rone (mix14 sf sg ss st) w
  have hb:Zk.all.at (mnQ 0 f (rone (pls f g s t)) g):=zk_all (mix_bun f g s t _)
  have on:∀ {p:Pt},OnB f g p→(!((sidQ (rone (pls f g s t)) p).num.sign==0))=false:=fun o=>sgn_0 (mix_on s t _ o.1 o.2)
  rcases pts_all hf hg (sf.mono (by decide)) (sg.mono (by decide)) with p | p | p | ⟨A,⟨fA,oA⟩,p⟩ | ⟨A,B,⟨⟨fA,oA⟩,fB,oB⟩,p⟩
  · exact ⟨.nil w m 7 rfl p⟩
  · exact ⟨.nil w m 230 rfl p⟩
  · exact ⟨.nil w m 4 rfl p⟩
  · exact ⟨.one w m A fA (on oA) hb p⟩
  · exact ⟨.two w m A B fA (on oA) fB (on oB) hb p⟩
end
theorem _root_.Go.Proofs.YtpccljaooghafaaGreat.MeetOver_walk (p q r:Cp) (a b:Fn) (W:World) :
  Calls Tryz.prog 12 #[.agg ((p.a.V++p.b.V++p.b'.V++p.c.V)++(q.a.V++q.b.V++q.b'.V++q.c.V)++(r.a.V++r.b.V++r.b'.V++r.c.V)).toArray,.agg (a.r.V++b.r.V).toArray] W fun e W'=>e=.returned (.bool true)∧Below W.heap.size W W':=by
 cases h:fewB3 p q r with
 | false=>exact spec_yes (lo1 p q r a b h) rfl rfl W
 | true =>
  cases n:a.B with
  | false=>exact spec_yes (lo2 p q r a b h n) rfl rfl W
  | true =>
   cases m:b.B with
   | false=>exact spec_yes (lo3 p q r a b h n m) rfl rfl W
   | true =>
    cases k:smB 14 a.r b.r with
    | false=>exact spec_yes (lo4 p q r a b h n m k) rfl rfl W
    | true =>
     have h':=h
     unfold fewB3 at h'
     rw [Bool.and_eq_true,Bool.and_eq_true,Bool.and_eq_true,Bool.and_eq_true,Bool.and_eq_true] at h'
     obtain ⟨⟨z1,z2,z3⟩,b1,b2,b3⟩:=h'
     cases p with
     | no=>cases b1
     | ok f hf=>cases q with
      | no=>cases b2
      | ok g hg=>cases r with
       | no=>cases b3
       | ok hq hh=>cases a with
        | no f0 hn=>cases n
        | ok s hs=>cases b with
         | no f0 hn=>cases m
         | ok t ht =>
          have sf:=sm14_rsz hf z1
          have sg:=sm14_rsz hg z2
          have sh:=sm14_rsz hh z3
          obtain ⟨ss,st⟩:=mpSmB_sz (x:=s) (y:=t) k
          obtain ⟨u⟩:=loU_of hf hg
          obtain ⟨x⟩:=loX_of sf sg sh
          obtain ⟨y⟩:=loY_of (h:=hq) hf hg sf sg ss st
          exact lo_all (loD_of hf hg hh h k sf sg hs ht) u x (loM_of sf sg ss st) y W
end Go.Proofs.YtpccljaooghafaaGreat.Y
end
section
namespace Go.Proofs.YtpccljaooghafaaGreat
open Go.ChangeShapes Go.WideShapes Go.ChangeAt Go.RowKit
theorem cellsOf_bool:Tryz.prog.cellsOf 4=1:=by kernel_rfl
theorem cellsOf_string:Tryz.prog.cellsOf 9=1:=by kernel_rfl
theorem cellsOf_whole:Tryz.prog.cellsOf 23=2:=by kernel_rfl
theorem cellsOf_frac:Tryz.prog.cellsOf 25=4:=by kernel_rfl
section
variable {H:Type} {enc:TypeId × Value→H} {w:World} {base:Nat} {spare:Nat→Bool} {held:Bool}
set_option maxRecDepth 100000 in
theorem trod_whole {fuel:Nat} {cs:List Value} {x:DataW H × List MemPlace} (h:DataW.trod enc Tryz.prog w base spare held fuel 23 cs=some x) :
  ∃ (b:Bool) (s:ByteArray),cs=[.bool b,.string s]∧s.size≤maxLen:=by
 obtain ⟨xs,n,rfl,_,hlen,hxl,hf⟩:=DataW.trod_struct Tryz.underlying23 h
 rw [cellsOf_whole] at hlen
 have hx0:xs[0]?=some (xs[0]'(by rw [hxl]; decide)):=List.getElem?_eq_getElem _
 have hx1:xs[1]?=some (xs[1]'(by rw [hxl]; decide)):=List.getElem?_eq_getElem _
 have h0:DataW.trod enc Tryz.prog w base spare held n 4 ((cs.drop 0).take (Tryz.prog.cellsOf 4))=some _:=(hf 0 _ rfl).trans hx0
 have h1:DataW.trod enc Tryz.prog w base spare held n 9 ((cs.drop 1).take (Tryz.prog.cellsOf 9))=some _:=(hf 1 _ rfl).trans hx1
 rw [cellsOf_bool] at h0
 rw [cellsOf_string] at h1
 match cs,hlen with
 | [a,b],_ =>
  obtain ⟨p,e0,_⟩:=DataW.trod_bool Tryz.underlying4 h0
  obtain ⟨s,e1,_,hs⟩:=DataW.trod_string Tryz.underlying9 h1
  cases e0
  cases e1
  exact ⟨p,s,rfl,hs⟩
set_option maxRecDepth 100000 in
theorem trod_frac {fuel:Nat} {cs:List Value} {x:DataW H × List MemPlace} (h:DataW.trod enc Tryz.prog w base spare held fuel 25 cs=some x) :
  ∃ (b c:Bool) (s t:ByteArray),cs=[.bool b,.string s,.bool c,.string t]∧s.size≤maxLen∧t.size≤maxLen:=by
 obtain ⟨xs,n,rfl,_,hlen,hxl,hf⟩:=DataW.trod_struct Tryz.underlying25 h
 rw [cellsOf_frac] at hlen
 have hx0:xs[0]?=some (xs[0]'(by rw [hxl]; decide)):=List.getElem?_eq_getElem _
 have hx1:xs[1]?=some (xs[1]'(by rw [hxl]; decide)):=List.getElem?_eq_getElem _
 have h0:DataW.trod enc Tryz.prog w base spare held n 23 ((cs.drop 0).take (Tryz.prog.cellsOf 23))=some _:=(hf 0 _ rfl).trans hx0
 have h1:DataW.trod enc Tryz.prog w base spare held n 23 ((cs.drop 2).take (Tryz.prog.cellsOf 23))=some _:=(hf 1 _ rfl).trans hx1
 rw [cellsOf_whole] at h0 h1
 match cs,hlen with
 | [a,b,c,d],_ =>
  obtain ⟨p,s,e0,hs⟩:=trod_whole h0
  obtain ⟨q,t,e1,ht⟩:=trod_whole h1
  cases e0
  cases e1
  exact ⟨p,q,s,t,rfl,hs,ht⟩
end
end Go.Proofs.YtpccljaooghafaaGreat
end
section
namespace Go.Proofs.YtpccljaooghafaaGreat
open Go Go.ChangeShapes Go.WideShapes Go.ChangeAt Go.RowKit
theorem cellsOf_gauss:Tryz.prog.cellsOf 49=8:=by kernel_rfl
theorem okWide_array {P:Program} {w:World} {r:Reach} {base:Nat} {t e:TypeId} {v:Value} {n:Nat} (ht:P.underlying t=some (.array n e)) (h:Value.okWide P w r base t v):∃ cs,v=.agg cs∧cs.size=P.cellsOf t:=by
 simp only [Value.okWide,ht] at h
 obtain ⟨cs,h1,h2,_⟩:=h
 exact ⟨cs,h1,h2⟩
theorem chunk {α:Type} (cs:List α) (a b:Nat):cs.drop a=(cs.drop a).take b++cs.drop (a+b):=by
 rw [← List.drop_drop,List.take_append_drop]
def R4.ok (x:R4):Prop:=x.s.size≤maxLen∧x.t.size≤maxLen
section
variable {H:Type} {enc:TypeId × Value→H} {w:World} {base:Nat} {spare:Nat→Bool} {held:Bool}
theorem trod_r4 {fuel:Nat} {cs:List Value} {x:DataW H × List MemPlace} (h:DataW.trod enc Tryz.prog w base spare held fuel 25 cs=some x):∃ r:R4,cs=r.V∧r.ok:=by
 obtain ⟨b,c,s,t,e,h1,h2⟩:=trod_frac h
 exact ⟨⟨b,s,c,t⟩,e,h1,h2⟩
set_option maxRecDepth 100000 in
theorem trod_gauss {fuel:Nat} {cs:List Value} {x:DataW H × List MemPlace} (h:DataW.trod enc Tryz.prog w base spare held fuel 49 cs=some x):∃ r s:R4,cs=r.V++s.V∧r.ok∧s.ok:=by
 obtain ⟨xs,n,rfl,_,hlen,hxl,hf⟩:=DataW.trod_struct Tryz.underlying49 h
 rw [cellsOf_gauss] at hlen
 have hx0:xs[0]?=some (xs[0]'(by rw [hxl]; decide)):=List.getElem?_eq_getElem _
 have hx1:xs[1]?=some (xs[1]'(by rw [hxl]; decide)):=List.getElem?_eq_getElem _
 have h0:DataW.trod enc Tryz.prog w base spare held n 25 ((cs.drop 0).take (Tryz.prog.cellsOf 25))=some _:=(hf 0 _ rfl).trans hx0
 have h1:DataW.trod enc Tryz.prog w base spare held n 25 ((cs.drop 4).take (Tryz.prog.cellsOf 25))=some _:=(hf 1 _ rfl).trans hx1
 rw [cellsOf_frac] at h0 h1
 obtain ⟨r,e0,k0⟩:=trod_r4 h0
 obtain ⟨s,e1,k1⟩:=trod_r4 h1
 refine ⟨r,s,?_,k0,k1⟩
 have:=chunk cs 0 4
 rw [e0,List.drop_zero] at this
 rw [this,chunk cs (0+4) 4,e1,List.drop_of_length_le (by omega),List.append_nil]
end
end Go.Proofs.YtpccljaooghafaaGreat
end
section
namespace Go.Proofs.YtpccljaooghafaaGreat
open Go.ChangeShapes Go.WideShapes Go.ChangeAt Go.RowKit
section
variable {H:Type} {enc:TypeId × Value→H} {w:World} {base:Nat} {spare:Nat→Bool} {held:Bool}
theorem cellsOf_circle:Tryz.prog.cellsOf 112=16:=by kernel_rfl
set_option maxRecDepth 100000 in
theorem trod_circle {fuel:Nat} {cs:List Value} {x:DataW H × List MemPlace} (h:DataW.trod enc Tryz.prog w base spare held fuel 112 cs=some x) :
  ∃ (a b b' c:R4),cs=a.V++b.V++b'.V++c.V∧a.ok∧b.ok∧b'.ok∧c.ok:=by
 obtain ⟨xs,n,rfl,_,hlen,hxl,hf⟩:=DataW.trod_struct Tryz.underlying112 h
 rw [cellsOf_circle] at hlen
 have hx0:xs[0]?=some (xs[0]'(by rw [hxl]; decide)):=List.getElem?_eq_getElem _
 have hx1:xs[1]?=some (xs[1]'(by rw [hxl]; decide)):=List.getElem?_eq_getElem _
 have hx2:xs[2]?=some (xs[2]'(by rw [hxl]; decide)):=List.getElem?_eq_getElem _
 have h0:DataW.trod enc Tryz.prog w base spare held n 25 ((cs.drop 0).take (Tryz.prog.cellsOf 25))=some _:=(hf 0 _ rfl).trans hx0
 have h1:DataW.trod enc Tryz.prog w base spare held n 49 ((cs.drop 4).take (Tryz.prog.cellsOf 49))=some _:=(hf 1 _ rfl).trans hx1
 have h2:DataW.trod enc Tryz.prog w base spare held n 25 ((cs.drop 12).take (Tryz.prog.cellsOf 25))=some _:=(hf 2 _ rfl).trans hx2
 rw [cellsOf_frac] at h0 h2
 rw [cellsOf_gauss] at h1
 obtain ⟨a0,e0,k0⟩:=trod_r4 h0
 obtain ⟨a1,b1,e1,k1⟩:=trod_gauss h1
 obtain ⟨a2,e2,k2⟩:=trod_r4 h2
 refine ⟨a0,a1,b1,a2,?_,k0,k1.1,k1.2,k2⟩
 have c0:=chunk cs 0 4
 have c1:=chunk cs (0+4) 8
 have c2:=chunk cs (0+4+8) 4
 rw [List.drop_eq_nil_of_le (show cs.length≤0+4+8+4 by omega),List.append_nil] at c2
 rw [e2] at c2
 rw [e1,c2] at c1
 rw [e0,c1,List.drop_zero] at c0
 rw [c0]
 simp only [List.append_assoc]
theorem cellsOf_pair:Tryz.prog.cellsOf 128=8:=by kernel_rfl
set_option maxRecDepth 100000 in
theorem open_pair {r:Reach} {b0:Nat} {v:Value} {d:DataW H} {p:List MemPlace} (hv:Value.okWide Tryz.prog w r b0 128 v) (h:DataW.Trod enc Tryz.prog w base spare held 128 v d p) :
  ∃ a b:Y.Fn,v=.agg (a.r.V++b.r.V).toArray:=by
 obtain ⟨cs,rfl,hsz⟩:=okWide_array Tryz.underlying128 hv
 obtain ⟨fuel,hf⟩:=h
 obtain ⟨l⟩:=cs
 obtain ⟨xs,n,rfl,_,hlen,hxl,hg⟩:=DataW.trod_array Tryz.underlying128 hf
 simp only [Value.cells] at hlen hg
 rw [cellsOf_pair] at hlen
 rw [cellsOf_frac] at hg
 have key:∀ i,i<2→∃ r:R4,(l.drop (i*4)).take 4=r.V∧r.ok:=fun i hi=>by
  have hx:xs[i]?=some (xs[i]'(by rw [hxl]; exact hi)):=List.getElem?_eq_getElem _
  exact trod_r4 ((hg i hi).trans hx)
 obtain ⟨a0,e0,k0⟩:=key 0 (by decide)
 obtain ⟨a1,e1,k1⟩:=key 1 (by decide)
 have c0:=chunk l (0*4) 4
 have c1:=chunk l (1*4) 4
 rw [e1,List.drop_of_length_le (show l.length≤1*4+4 by omega),List.append_nil] at c1
 rw [e0,show 0*4+4=1*4 by rfl,c1,show 0*4=0 by rfl,List.drop_zero] at c0
 obtain ⟨a,rfl⟩:=Y.fn_of a0 k0
 obtain ⟨b,rfl⟩:=Y.fn_of a1 k1
 exact ⟨a,b,by rw [c0]⟩
end
section
variable {H:Type} {enc:TypeId × Value→H} {w:World} {base:Nat} {spare:Nat→Bool} {held:Bool}
theorem cellsOf_circ3:Tryz.prog.cellsOf 127=48:=by kernel_rfl
set_option maxRecDepth 100000 in
theorem open_circ3 {r:Reach} {b0:Nat} {v:Value} {d:DataW H} {p:List MemPlace} (hv:Value.okWide Tryz.prog w r b0 127 v) (h:DataW.Trod enc Tryz.prog w base spare held 127 v d p) :
  ∃ q q' q2:Y.Cp,v=.agg ((q.a.V++q.b.V++q.b'.V++q.c.V)++(q'.a.V++q'.b.V++q'.b'.V++q'.c.V)++(q2.a.V++q2.b.V++q2.b'.V++q2.c.V)).toArray:=by
 obtain ⟨cs,rfl,hsz⟩:=okWide_array Tryz.underlying127 hv
 obtain ⟨fuel,hf⟩:=h
 obtain ⟨l⟩:=cs
 obtain ⟨xs,n,rfl,_,hlen,hxl,hg⟩:=DataW.trod_array Tryz.underlying127 hf
 simp only [Value.cells] at hlen hg
 rw [cellsOf_circ3] at hlen
 rw [cellsOf_circle] at hg
 have key:∀ i,i<3→∃ q:Y.Cp,(l.drop (i*16)).take 16=q.a.V++q.b.V++q.b'.V++q.c.V:=fun i hi=>by
  have hx:xs[i]?=some (xs[i]'(by rw [hxl]; exact hi)):=List.getElem?_eq_getElem _
  obtain ⟨a,b,b',c,e,h1,h2,h3,h4⟩:=trod_circle ((hg i hi).trans hx)
  obtain ⟨q,rfl,rfl,rfl,rfl⟩:=Y.cp_of a b b' c h1 h2 h3 h4
  exact ⟨q,e⟩
 obtain ⟨q0,e0⟩:=key 0 (by decide)
 obtain ⟨q1,e1⟩:=key 1 (by decide)
 obtain ⟨q2,e2⟩:=key 2 (by decide)
 refine ⟨q0,q1,q2,?_⟩
 have c0:=chunk l (0*16) 16
 have c1:=chunk l (1*16) 16
 have c2:=chunk l (2*16) 16
 rw [e2,List.drop_of_length_le (show l.length≤2*16+16 by omega),List.append_nil] at c2
 rw [e1,show 1*16+16=2*16 by rfl,c2] at c1
 rw [e0,show 0*16+16=1*16 by rfl,c1,show 0*16=0 by rfl,List.drop_zero] at c0
 rw [c0]
 simp only [List.append_assoc]
end
end Go.Proofs.YtpccljaooghafaaGreat
end
