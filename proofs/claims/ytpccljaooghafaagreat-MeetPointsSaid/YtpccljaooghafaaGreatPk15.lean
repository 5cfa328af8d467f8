/- MtG, MtK, MtL, MpR, MpS, MtP, MpP, MpL. -/
import Derived.Test.YtpccljaooghafaaGreatPk14
set_option linter.unnecessarySimpa false
set_option linter.unusedVariables false
set_option linter.unusedSimpArgs false
section
namespace Go.Proofs.YtpccljaooghafaaGreat.Y
open Go Go.RowKit
set_option maxRecDepth 100000
abbrev fm12 (f g h:RQ):List Thing:=[ratT f.a,ratT f.b.re,ratT f.b.im,ratT f.c,ratT g.a,ratT g.b.re,ratT g.b.im,ratT g.c,ratT h.a,ratT h.b.re,ratT h.b.im,ratT h.c]
abbrev rw12 (k:Nat):Ob:=.row [.b (.z k 0),.b (.z (k+1) 0),.b (.z (k+2) 0),.b (.z (k+3) 0),.b (.z (k+4) 0),.b (.z (k+5) 0),.b (.z (k+6) 0),.b (.z (k+7) 0),.b (.z (k+8) 0),.b (.z (k+9) 0),.b (.z (k+10) 0),.b (.z (k+11) 0)] FRT 3 4
theorem ptr_row {w:World} {b:Nat} {cur:Array Value} {t:TypeId} {x:Rat} {q:Option Addr} (h:w.heap[b]?=some (.cells cur t (0,0))) (hq:cur[1]?=some (.pointer q)) (k:RatAt w b 0 x):False:=by
 obtain ⟨A,m,cap,_,h1,_⟩:=k.2.1.open_
 have h2:=cell_lay (o:=1) h hq
 rw [Nat.zero_add,h2] at h1
 cases h1
theorem take_at {cur:Array Value} {l:List Value} {n:Nat} {v:Value} (h:cur.toList.take n=l) (hv:l[1]?=some v):cur[1]?=some v:=by
 rw [← h,List.getElem?_take] at hv
 split at hv
 · rwa [Array.getElem?_toList] at hv
 · cases hv
theorem open3o_ok {f g h:RQ} (hf:MayC f) (hg:MayC g) (hk:MayC h) (β:Env) (w:World) (hh:(Ob.box (oc3L f g h) 112).holds β w (β 0)) :
  Calls Tryz.prog 272 (oc3A.map (SV.den β)).toArray w fun e u=>∃ (G:Pl) (xs:List Pl),(w.heap.size≤G.b∧(∀ x∈xs,∀ c,x.F c→w.heap.size≤c)∧∀ x∈xs,¬ x.F G.b)∧e=.returned ((SV.tup [.c (.b (.r 1 3)),nI' 0]).den (extE β 1 (G::xs)))∧(rw12 2).holds (extE β 1 (G::xs)) u G∧newHold u (fm12 f g h) xs∧Below w.heap.size w u:=by
 refine (sx (P:=Tryz.prog) oc3A [.box (oc3L f g h) 112] (oc3E hf hg hk) [] 1200 (.tup [.c (.b (.r 21 3)),nI' 0]) (oc3O f g h) Tryz.func272 hmA (fun β=>ok_of_maps (oc3_eqs hf hg hk β)) (by kernel_rfl) (by kernel_rfl) β w (fun k o ho=>?_)).mono ?_
 · cases k with
   | zero=>simp only [List.getElem?_cons_zero] at ho; obtain rfl:=Option.some.inj ho; exact hh
   | succ k=>simp at ho
 · rintro e u ⟨β',q',obj,e1,rfl,e2,e4,e5,g0⟩
   have hnew:∀ y∈oc3O f g h,∀ c,(β' y.1).F c→c≠(β 0).b→w.heap.size≤c:=fun y hy c hc hne=>by
    rcases e4 y hy c hc with h | ⟨i,hi,h⟩
    · exact h
    · obtain rfl:i=0:=by simp only [List.length_singleton] at hi; omega
      exact absurd ((hh.1.1 c).1 h) hne
   have hu:u.heap[(β 0).b]?=some (.cells ((oc3L f g h).map (Lf.den β)).toArray 112 (0,0)):=by rw [g0.bel.block _ (heap_lt hh.2)]; exact hh.2
   obtain ⟨hone,cur,hcur,hcl,hn,hcm,hsz,htake⟩:=e5 (21,.row [.b (.z 2 0),.b (.z 3 0),.b (.z 4 0),.b (.z 5 0),.b (.z 9 0),.b (.z 10 0),.b (.z 11 0),.b (.z 12 0),.b (.z 16 0),.b (.z 17 0),.b (.z 18 0),.b (.z 19 0)] FRT 3 4) (by simp [oc3O])
   have hbR:w.heap.size≤(β' 21).b:=hnew _ (by simp [oc3O]) _ ((hone.1 _).2 rfl) fun e=>by
    rw [e,hu] at hcur
    have:=(Obj.cells.inj (Option.some.inj hcur)).2.1
    exact absurd this (by decide)
   have hrat:∀ (k:Nat) (x:Rat),(k,(ratT x).ob)∈oc3O f g h→PR x u (β' k)∧(∀ c,(β' k).F c→w.heap.size≤c)∧¬ (β' k).F (β' 21).b:=fun k x hk=>by
    have h:PR x u (β' k):=e5 _ hk
    refine ⟨h,fun c hc=>?_,fun hc=>?_⟩
    · obtain ⟨b,hb,hx⟩:=h
      have ec:=(hb.2 c).1 hc
      subst ec
      refine hnew _ hk c hc fun e=>?_
      rw [e] at hx
      exact str_no_rat hu hx
    · obtain ⟨b,hb,hx⟩:=h
      have ec:=(hb.2 _).1 hc
      rw [← ec] at hx
      exact ptr_row hcur (take_at htake rfl) hx
   obtain ⟨o2,n2,m2⟩:=hrat 2 f.a (by simp [oc3O])
   obtain ⟨o3,n3,m3⟩:=hrat 3 f.b.re (by simp [oc3O])
   obtain ⟨o4,n4,m4⟩:=hrat 4 f.b.im (by simp [oc3O])
   obtain ⟨o5,n5,m5⟩:=hrat 5 f.c (by simp [oc3O])
   obtain ⟨o9,n9,m9⟩:=hrat 9 g.a (by simp [oc3O])
   obtain ⟨o10,n10,m10⟩:=hrat 10 g.b.re (by simp [oc3O])
   obtain ⟨o11,n11,m11⟩:=hrat 11 g.b.im (by simp [oc3O])
   obtain ⟨o12,n12,m12⟩:=hrat 12 g.c (by simp [oc3O])
   obtain ⟨o16,n16,m16⟩:=hrat 16 h.a (by simp [oc3O])
   obtain ⟨o17,n17,m17⟩:=hrat 17 h.b.re (by simp [oc3O])
   obtain ⟨o18,n18,m18⟩:=hrat 18 h.b.im (by simp [oc3O])
   obtain ⟨o19,n19,m19⟩:=hrat 19 h.c (by simp [oc3O])
   refine ⟨β' 21,[β' 2,β' 3,β' 4,β' 5,β' 9,β' 10,β' 11,β' 12,β' 16,β' 17,β' 18,β' 19],⟨hbR,fun x hx=>?_,fun x hx=>?_⟩,rfl,⟨hone,cur,hcur,rfl,hn,hcm,hsz,htake.trans rfl⟩,⟨o2,o3,o4,o5,o9,o10,o11,o12,o16,o17,o18,o19,trivial⟩,g0.bel⟩
   · simp only [List.mem_cons,List.not_mem_nil,or_false] at hx
     rcases hx with rfl | rfl | rfl | rfl | rfl | rfl | rfl | rfl | rfl | rfl | rfl | rfl
     · exact n2
     · exact n3
     · exact n4
     · exact n5
     · exact n9
     · exact n10
     · exact n11
     · exact n12
     · exact n16
     · exact n17
     · exact n18
     · exact n19
   · simp only [List.mem_cons,List.not_mem_nil,or_false] at hx
     rcases hx with rfl | rfl | rfl | rfl | rfl | rfl | rfl | rfl | rfl | rfl | rfl | rfl
     · exact m2
     · exact m3
     · exact m4
     · exact m5
     · exact m9
     · exact m10
     · exact m11
     · exact m12
     · exact m16
     · exact m17
     · exact m18
     · exact m19
noncomputable def sOpen3O {f g h:RQ} (hf:MayC f) (hg:MayC g) (hk:MayC h):CRow Tryz.prog :=
 ⟨272,Tryz.call272,oc3A,oc3L f g h,112,rw12 2,.tup [.c (.b (.r 1 3)),nI' 0],fm12 f g h,open3o_ok hf hg hk,by kernel_rfl⟩
def acO (f g h:RQ):List (Nat × Ob):=[(12,.row [.b (.z 16 0),.b (.z 1 0),.b (.z 2 0),.b (.z 18 0),.b (.z 21 0),.b (.z 5 0),.b (.z 6 0),.b (.z 23 0),.b (.z 26 0),.b (.z 9 0),.b (.z 10 0),.b (.z 28 0)] FRT 3 4),(16,(ratT (f.c/Rat.divInt (-2) 1)).ob),(18,(ratT (f.a/Rat.divInt (-2) 1)).ob),(21,(ratT (g.c/Rat.divInt (-2) 1)).ob),(23,(ratT (g.a/Rat.divInt (-2) 1)).ob),(26,(ratT (h.c/Rat.divInt (-2) 1)).ob),(28,(ratT (h.a/Rat.divInt (-2) 1)).ob),(29,(ratT (acQ f g h).a).ob),(30,(ratT (acQ f g h).b.re).ob),(31,(ratT (acQ f g h).b.im).ob),(32,(ratT (acQ f g h).c).ob)]
abbrev acB (f g h:RQ):List Ob:=(fm12 f g h).map Thing.ob++[rw12 0]
section
variable {f g h:RQ} (hf:MayC f) (hg:MayC g) (hk:MayC h)
noncomputable def acqE {f:RQ} (hf:MayC f):List (Ev Tryz.prog):=[(sMtNum (-2)).e,(sMtQuo (hf.s1024.c.mono (by decide)) (two_sz.mono (by decide)) m2_ne).e,(sMtNum (-2)).e,(sMtQuo (hf.s1024.a.mono (by decide)) (two_sz.mono (by decide)) m2_ne).e]
noncomputable def acE:List (Ev Tryz.prog):=acqE hf++acqE hg++acqE hk++[(sMinors (up_sz hf) (up_sz hg) (up_sz hk)).e]
theorem ac_eqs (β:Env):(allM Tryz.prog 12 Tryz.f273 [.one (.c (.b (.r 12 3)))] (acB f g h) (acE hf hg hk) [(4,16)] 2000 (.tup [rgC 29,.c (.b (.v (.bool true)))]) (acO f g h) β).map Prod.fst=(allM Tryz.prog 12 Tryz.f273 [.one (.c (.b (.r 12 3)))] (acB f g h) (acE hf hg hk) [(4,16)] 2000 (.tup [rgC 29,.c (.b (.v (.bool true)))]) (acO f g h) β).map Prod.snd:=by kernel_rfl
abbrev acN (f g h:RQ):List Thing:=[ratT (f.c/Rat.divInt (-2) 1),ratT (f.a/Rat.divInt (-2) 1),ratT (g.c/Rat.divInt (-2) 1),ratT (g.a/Rat.divInt (-2) 1),ratT (h.c/Rat.divInt (-2) 1),ratT (h.a/Rat.divInt (-2) 1),ratT (acQ f g h).a,ratT (acQ f g h).b.re,ratT (acQ f g h).b.im,ratT (acQ f g h).c]
abbrev acb:Ob:=.row [.b (.z 13 0),.b (.z 1 0),.b (.z 2 0),.b (.z 14 0),.b (.z 15 0),.b (.z 5 0),.b (.z 6 0),.b (.z 16 0),.b (.z 17 0),.b (.z 9 0),.b (.z 10 0),.b (.z 18 0)] FRT 3 4
include hf hg hk in
theorem ac_ok (β:Env) (w:World) (hh:∀ (k:Nat) (t:Thing),(fm12 f g h)[k]?=some t→t.D w (β k)) (ha:(rw12 0).holds β w (β 12)) :
  Calls Tryz.prog 273 (([.one (.c (.b (.r 12 3)))]:List SV).map (SV.den β)).toArray w fun e u=>∃ xs:List Pl,freshS β w 12 xs∧e=.returned ((SV.tup [rgC 19,.c (.b (.v (.bool true)))]).den (extE β 13 xs))∧newHold u (acN f g h) xs∧acb.holds (extE β 13 xs) u (β 12)∧TouchL w u [(β 12).b]:=by
 have hobs:∀ (k:Nat) (o:Ob),(acB f g h)[k]?=some o→o.holds β w (β k):=fun k o ho=>by
  match k,ho with
  | 0,ho=>obtain rfl:=Option.some.inj ho; exact hh 0 _ rfl
  | 1,ho=>obtain rfl:=Option.some.inj ho; exact hh 1 _ rfl
  | 2,ho=>obtain rfl:=Option.some.inj ho; exact hh 2 _ rfl
  | 3,ho=>obtain rfl:=Option.some.inj ho; exact hh 3 _ rfl
  | 4,ho=>obtain rfl:=Option.some.inj ho; exact hh 4 _ rfl
  | 5,ho=>obtain rfl:=Option.some.inj ho; exact hh 5 _ rfl
  | 6,ho=>obtain rfl:=Option.some.inj ho; exact hh 6 _ rfl
  | 7,ho=>obtain rfl:=Option.some.inj ho; exact hh 7 _ rfl
  | 8,ho=>obtain rfl:=Option.some.inj ho; exact hh 8 _ rfl
  | 9,ho=>obtain rfl:=Option.some.inj ho; exact hh 9 _ rfl
  | 10,ho=>obtain rfl:=Option.some.inj ho; exact hh 10 _ rfl
  | 11,ho=>obtain rfl:=Option.some.inj ho; exact hh 11 _ rfl
  | 12,ho=>obtain rfl:=Option.some.inj ho; exact ha
  | k+13,ho=>cases ho
 obtain ⟨hone,cur,hcur,hcl,hn,hcm,hsz,htake⟩:=ha
 have hno:∀ j,j<12→¬ (β j).F (β 12).b:=fun j hj hF=>by
  obtain ⟨t,ht,x,rfl⟩:∃ t,(fm12 f g h)[j]?=some t∧∃ x,t=ratT x:=by
   match j,hj with
   | 0,_=>exact ⟨_,rfl,_,rfl⟩
   | 1,_=>exact ⟨_,rfl,_,rfl⟩
   | 2,_=>exact ⟨_,rfl,_,rfl⟩
   | 3,_=>exact ⟨_,rfl,_,rfl⟩
   | 4,_=>exact ⟨_,rfl,_,rfl⟩
   | 5,_=>exact ⟨_,rfl,_,rfl⟩
   | 6,_=>exact ⟨_,rfl,_,rfl⟩
   | 7,_=>exact ⟨_,rfl,_,rfl⟩
   | 8,_=>exact ⟨_,rfl,_,rfl⟩
   | 9,_=>exact ⟨_,rfl,_,rfl⟩
   | 10,_=>exact ⟨_,rfl,_,rfl⟩
   | 11,_=>exact ⟨_,rfl,_,rfl⟩
   | j+12,hj=>omega
  obtain ⟨b,hb,hx⟩:PR x w (β j):=hh j _ ht
  have ec:=(hb.2 _).1 hF
  rw [← ec] at hx
  exact ptr_row hcur (take_at htake rfl) hx
 refine (sxM (P:=Tryz.prog) 12 [.one (.c (.b (.r 12 3)))] (acB f g h) (acE hf hg hk) [(4,16)] 2000 (.tup [rgC 29,.c (.b (.v (.bool true)))]) (acO f g h) Tryz.func273 hmA (fun β=>ok_of_maps (ac_eqs hf hg hk β)) (by show 12≤13; decide) (by kernel_rfl) (by kernel_rfl) (fun k k1 k2=>?_) (fun k k1 k2=>?_) β w hobs (fun k j k1 k2 k3 k4=>?_)).mono ?_
 · obtain rfl:k=12:=by have:(acB f g h).length=13:=rfl; omega
   rfl
 · obtain rfl:k=12:=by have:(acB f g h).length=13:=rfl; omega
   exact ⟨_,_,List.mem_cons_self ..,rfl⟩
 · have hl:(acB f g h).length=13:=rfl
   obtain rfl:k=12:=by omega
   exact hno j (by omega)
 · rintro e u ⟨β',q,e1,rfl,e3,e4,e5,e6⟩
   have h12:β' 12=β 12:=e1 12 (by show 12<13; decide)
   obtain ⟨ho1,cur',hcur',k3,k4,k5,k6,k7⟩:=e5 _ (List.mem_cons_self ..)
   rw [h12] at ho1 hcur' k4 k5 k6
   have hfr:∀ p∈acO f g h,p.2.isTh=true→∀ c,(β' p.1).F c→w.heap.size≤c∨∃ i,i<12∧(β i).F c:=fun p hp hth c hc=>(e4 p hp hth c hc).imp And.left id
   have hth:∀ (k:Nat) (x:Rat),(k,(ratT x).ob)∈acO f g h→(ratT x).D u (β' k):=fun k x hk=>e5 _ hk
   have b0:β' 0=β 0:=e1 0 (by show 0<13; decide)
   have b1:β' 1=β 1:=e1 1 (by show 1<13; decide)
   have b2:β' 2=β 2:=e1 2 (by show 2<13; decide)
   have b3:β' 3=β 3:=e1 3 (by show 3<13; decide)
   have b4:β' 4=β 4:=e1 4 (by show 4<13; decide)
   have b5:β' 5=β 5:=e1 5 (by show 5<13; decide)
   have b6:β' 6=β 6:=e1 6 (by show 6<13; decide)
   have b7:β' 7=β 7:=e1 7 (by show 7<13; decide)
   have b8:β' 8=β 8:=e1 8 (by show 8<13; decide)
   have b9:β' 9=β 9:=e1 9 (by show 9<13; decide)
   have b10:β' 10=β 10:=e1 10 (by show 10<13; decide)
   have b11:β' 11=β 11:=e1 11 (by show 11<13; decide)
   refine ⟨[β' 16,β' 18,β' 21,β' 23,β' 26,β' 28,β' 29,β' 30,β' 31,β' 32],fun x hx=>?_,rfl,⟨hth 16 _ (by simp [acO]),hth 18 _ (by simp [acO]),hth 21 _ (by simp [acO]),hth 23 _ (by simp [acO]),hth 26 _ (by simp [acO]),hth 28 _ (by simp [acO]),hth 29 _ (by simp [acO]),hth 30 _ (by simp [acO]),hth 31 _ (by simp [acO]),hth 32 _ (by simp [acO]),trivial⟩,⟨ho1,cur',hcur',rfl,k4,k5,k6,k7.trans ?_⟩,⟨e6.os,e6.tape,e6.output,e6.size,fun k hkk hne=>e6.block k hkk fun hS=>?_⟩⟩
   · simp only [List.mem_cons,List.not_mem_nil,or_false] at hx
     rcases hx with rfl | rfl | rfl | rfl | rfl | rfl | rfl | rfl | rfl | rfl
     · exact hfr (16,(ratT (f.c/Rat.divInt (-2) 1)).ob) (by simp [acO]) rfl
     · exact hfr (18,(ratT (f.a/Rat.divInt (-2) 1)).ob) (by simp [acO]) rfl
     · exact hfr (21,(ratT (g.c/Rat.divInt (-2) 1)).ob) (by simp [acO]) rfl
     · exact hfr (23,(ratT (g.a/Rat.divInt (-2) 1)).ob) (by simp [acO]) rfl
     · exact hfr (26,(ratT (h.c/Rat.divInt (-2) 1)).ob) (by simp [acO]) rfl
     · exact hfr (28,(ratT (h.a/Rat.divInt (-2) 1)).ob) (by simp [acO]) rfl
     · exact hfr (29,(ratT ((acQ f g h).a)).ob) (by simp [acO]) rfl
     · exact hfr (30,(ratT ((acQ f g h).b.re)).ob) (by simp [acO]) rfl
     · exact hfr (31,(ratT ((acQ f g h).b.im)).ob) (by simp [acO]) rfl
     · exact hfr (32,(ratT ((acQ f g h).c)).ob) (by simp [acO]) rfl
   · show _=_
     simp only [List.map_cons,List.map_nil,Lf.den,Lf0.den,b0,b1,b2,b3,b4,b5,b6,b7,b8,b9,b10,b11]
     rfl
   · obtain ⟨i,i1,i2,rfl⟩:=hS
     have hl:(acB f g h).length=13:=rfl
     obtain rfl:i=12:=by omega
     exact hne (List.mem_singleton.2 rfl)
noncomputable def sAcr1:MSpec Tryz.prog :=
 ⟨273,Tryz.call273,[.one (.c (.b (.r 12 3)))],fm12 f g h,rw12 0,acb,.tup [rgC 19,.c (.b (.v (.bool true)))],acN f g h,ac_ok hf hg hk,by kernel_rfl⟩
def isTp:SV→Bool
 | .tup _=>true
 | _=>false
def mvTp (d t:Nat) (x:SV):Ev Tryz.prog:=.rd d (.move (.tmp t)) (fun β=>[x.den β]) [] 0 x [] (fun β w _ ρ op ho hx=>by
 refine ⟨[],w,(fun _ h=>by cases h),?_,trivial,Below.refl _ _⟩
 have h1:ρ (.tmp t)=x.den β:=by simpa [Op.operands] using hx
 rw [extE_nil,← h1]
 unfold execOp
 rw [ho]
 rfl)
def dMvT:Ev Tryz.prog:=.dyn (fun o xs _=>match o.op with
 | .move (.tmp _)=>isTp (xs.getD 0 undefS)
 | _=>false) fun o xs _=>match o.op with
 | .move (.tmp t)=>mvTp (o.dst.getD 0) t (xs.getD 0 undefS)
 | _=>.eqv 0 undef undef rfl
noncomputable def sMadeAc:CSpec Tryz.prog :=
 ⟨265,Tryz.call265,tl3A 273,oc3L f g h,CIT,mxA (acQ f g h),[],fun β w hh =>
  cspec0 [(sOpen3O hf hg hk).e,dMvT,(sAcr1 hf hg hk).e,(sMtCircle ((ac_sz hf hg hk).mono (by decide))).e] [] 800 Tryz.func265 hmA (fun β=>by kernel_rfl) (by kernel_rfl) (by kernel_rfl) β w hh,by kernel_rfl⟩
noncomputable def sMAcross:Spec Tryz.prog :=
 Spec.auto Tryz.call115 [frS f,frS g,frS h] [] (mxA (acQ f g h)) [] [(sMadeAc hf hg hk).e] [] 400 Tryz.func115 hmA (by kernel_rfl) (fun β=>by kernel_rfl)
end
end Go.Proofs.YtpccljaooghafaaGreat.Y
end
section
namespace Go.Proofs.YtpccljaooghafaaGreat.Y
open Go Go.RowKit
set_option maxRecDepth 100000
def ptCells (p:Pt):List Value:=(pw p).map fun l=>l.den idE
def rdPt (d t:Nat) (cs:List Cd) (o:Nat) (p:Pt) (hc:∀ j v,(ptCells p)[j]?=some v→cs[o+j]?=some (.v v)) (k n:Nat):Ev Tryz.prog :=
 .rd d (.load PTT (.tmp t)) (fun β=>[.pointer (some ⟨(β k).b,o,none⟩)]) [(k,(rowT PTT cs).ob)] 0 (svP p) [] (fun β w h ρ op ho hx'=>by
  have h1:RW PTT cs w (β k):=h (k,(rowT PTT cs).ob) (by simp)
  have h2:ρ (.tmp t)=.pointer (some ⟨(β k).b,o,none⟩):=by simpa [Op.operands] using hx'
  refine ⟨[],w,(fun _ h=>by cases h),?_,trivial,Below.refl _ _⟩
  have hr:w.rangeAt (β k).b o (ptCells p):=fun j v hv=>rw_cell h1 (hc j v hv)
  have hl:=run_loadAt_mid (P:=Tryz.prog) w (β k).b o PTT _ _ hr Tryz.underlying51 (by kernel_rfl) (by kernel_rfl)
  rw [extE_nil]
  unfold execOp
  rw [ho]
  simp only [h2]
  simp [hl,Result.andThen]
  rfl)
def isPt0 (p:Pt) (cs:List Cd) (o:Nat):Prop:=∀ j v,(ptCells p)[j]?=some v→cs[o+j]?=some (.v v)
theorem pt2_at0 (p q:Pt):isPt0 p (pt2 p q) 0:=fun j v h=>by
 match j,h with
 | 0,h=>exact congrArg (Option.map Cd.v) h
 | 1,h=>exact congrArg (Option.map Cd.v) h
 | 2,h=>exact congrArg (Option.map Cd.v) h
 | 3,h=>exact congrArg (Option.map Cd.v) h
 | 4,h=>exact congrArg (Option.map Cd.v) h
 | 5,h=>exact congrArg (Option.map Cd.v) h
 | 6,h=>exact congrArg (Option.map Cd.v) h
 | 7,h=>exact congrArg (Option.map Cd.v) h
 | 8,h=>exact congrArg (Option.map Cd.v) h
 | j+9,h=>cases h
def dPt0 (p q:Pt):Ev Tryz.prog:=.dyn (fun o xs ob=>match o.op with
 | .load T (.tmp _)=>Nat.beq T PTT&&isAd (xs.getD 0 undefS)&&(match ob[(adOf (xs.getD 0 undefS)).1]? with | some (.th _)=>true | _=>false)
 | _=>false) fun o xs ob=>match o.op with
 | .load _ (.tmp t)=>lit (adOf (xs.getD 0 undefS)).1 fun k=>rdPt (o.dst.getD 0) t (pt2 p q) 0 p (pt2_at0 p q) k 0
 | _=>.eqv 0 undef undef rfl
def rdIdxPt (d t:Nat) (cs:List Cd) (ix:Operand) (n j:Nat) (hj:Nat.blt j n=true) (k:Nat):Ev Tryz.prog :=
 .rd d (.indexAddr PSL (.tmp t) ix) (fun β=>[.slice ((β k).v cs.length) n ((β k).c cs.length),.int .i64 (j:Int)]) [(k,(rowT PTT cs).ob)] 0 (.one (.c (.b (.p k (j*9))))) [] (fun β w h ρ op ho hx'=>by
  have h1:RW PTT cs w (β k):=h (k,(rowT PTT cs).ob) (by simp)
  have h2:ρ (.tmp t)=.slice (some ⟨(β k).b,0,none⟩) n ((β k).c cs.length)∧ρ ix=.int .i64 (j:Int):=by
   rw [h1.2.1.2] at hx'
   simpa [Op.operands] using hx'
  rw [Nat.blt_eq] at hj
  refine ⟨[],w,(fun _ h=>by cases h),?_,trivial,Below.refl _ _⟩
  rw [extE_nil]
  unfold execOp
  rw [ho]
  simp only [h2.1,h2.2]
  have hi:=run_indexAt_slice (P:=Tryz.prog) w PSL ⟨(β k).b,0,none⟩ n ((β k).c cs.length) .i64 (j:Int) (by kernel_rfl)
  have hsz:(sizeOf (Tryz.prog.elem PSL)).run Tryz.prog w=.ok 9 w:=by kernel_rfl
  rw [if_pos ⟨by omega,by omega⟩,hsz,Result.andThen_ok,Int.toNat_natCast] at hi
  have ha:(⟨(β k).b,0,none⟩:Addr).add (j*9)=⟨(β k).b,j*9,none⟩:=by
   simp [Addr.add]
   exact fun h=>h.symm
  rw [ha] at hi
  simp only [Sem.run_bind,hi,Result.andThen_ok]
  rfl)
def dIdxPt (cs:List Cd):Ev Tryz.prog:=.dyn (fun o xs ob=>match o.op with
 | .indexAddr _ (.tmp _) _=>isY (xs.getD 0 undefS)
 | _=>false) fun o xs ob=>match o.op with
 | .indexAddr _ (.tmp t) ix=>lit (yOf (xs.getD 0 undefS)).1 fun k=>lit (yOf (xs.getD 0 undefS)).2 fun n=>lit (intS (xs.getD 1 undefS)) fun j=>if h:Nat.blt j n=true then rdIdxPt (o.dst.getD 0) t cs ix n j h k else .eqv 0 undef undef rfl
 | _=>.eqv 0 undef undef rfl
abbrev cq (x y z:Int):RQ:=⟨Rat.divInt 1 1,gint x y,Rat.divInt z 1⟩
theorem cq_may {x y z:Int} (hx:x.natAbs<256) (hy:y.natAbs<256) (hz:z.natAbs<256) (hp:decide ((rpow (cq x y z)).num.sign≤0)=false) (h1:decide ((rone (cq x y z)).a=(cq x y z).a)=true) (h2:decide ((rone (cq x y z)).b.re=(cq x y z).b.re)=true) (h3:decide ((rone (cq x y z)).b.im=(cq x y z).b.im)=true) (h4:decide ((rone (cq x y z)).c=(cq x y z).c)=true):MayC (cq x y z) :=
 ⟨⟨sz_lit1 (by decide),fit_int hx hy,sz_lit1 hz⟩,hp,rq_lit h1 h2 h3 h4⟩
theorem wt_eq {r s:RQ} (hp:decide ((rpow r).num.sign≤0)=false) (e:rone r=s):wtA r=.tup [.a (cC s),nI' 0]:=by
 rw [wtA,(wt_yes hp).1,(wt_yes hp).2,e]
theorem mx_eq {r s:RQ} (hp:wtB r=false) (e:rone r=s) (h:FitC s):mxA r=.tup [.a (cC s),nI' 0]:=by
 rw [mxA,(mx_yes hp).1,(mx_yes hp).2,e,(ci_fit h).1,(ci_fit h).2]
theorem may00:MayC (cq 0 0 (-1)):=cq_may (by decide) (by decide) (by decide) (by kernel_rfl) (by kernel_rfl) (by kernel_rfl) (by kernel_rfl) (by kernel_rfl)
theorem may10:MayC (cq (-1) 0 0):=cq_may (by decide) (by decide) (by decide) (by kernel_rfl) (by kernel_rfl) (by kernel_rfl) (by kernel_rfl) (by kernel_rfl)
theorem may20:MayC (cq (-2) 0 3):=cq_may (by decide) (by decide) (by decide) (by kernel_rfl) (by kernel_rfl) (by kernel_rfl) (by kernel_rfl) (by kernel_rfl)
theorem may025:MayC (cq 0 0 (-25)):=cq_may (by decide) (by decide) (by decide) (by kernel_rfl) (by kernel_rfl) (by kernel_rfl) (by kernel_rfl) (by kernel_rfl)
theorem may6:MayC (cq (-6) 0 11):=cq_may (by decide) (by decide) (by decide) (by kernel_rfl) (by kernel_rfl) (by kernel_rfl) (by kernel_rfl) (by kernel_rfl)
theorem may40:MayC (cq (-4) 0 15):=cq_may (by decide) (by decide) (by decide) (by kernel_rfl) (by kernel_rfl) (by kernel_rfl) (by kernel_rfl) (by kernel_rfl)
theorem may04:MayC (cq 0 4 15):=cq_may (by decide) (by decide) (by decide) (by kernel_rfl) (by kernel_rfl) (by kernel_rfl) (by kernel_rfl) (by kernel_rfl)
theorem may22:MayC (cq (-2) 2 1):=cq_may (by decide) (by decide) (by decide) (by kernel_rfl) (by kernel_rfl) (by kernel_rfl) (by kernel_rfl) (by kernel_rfl)
noncomputable def sRnd (n m s x y z:Int) (hn:n.natAbs<256) (hm:m.natAbs<256) (hs:s.natAbs<256) (hp:decide ((rpow (roundQ (gint n m) (Rat.divInt s 1))).num.sign≤0)=false) (e:rone (roundQ (gint n m) (Rat.divInt s 1))=cq x y z):Spec Tryz.prog :=
 Spec.auto Tryz.call245 [.one (svI n),.one (svI m),.one (svI s)] [] (.one (.a (cC (cq x y z)))) []
  [(sR4Int n m (by omega) (by omega)).e,(sR3Int s (by omega)).e,((sCRRound (fit_int hn hm) (sz_lit1 hs)).conv (.tup [.a (cC (cq x y z)),nI' 0]) (wt_eq hp e)).e] [] 400 Tryz.func245 hmA (by kernel_rfl) (fun β=>by kernel_rfl)
noncomputable def k001:Spec Tryz.prog:=sRnd 0 0 1 0 0 (-1) (by decide) (by decide) (by decide) (by kernel_rfl) (rq_lit (by kernel_rfl) (by kernel_rfl) (by kernel_rfl) (by kernel_rfl))
noncomputable def k101:Spec Tryz.prog:=sRnd 1 0 1 (-1) 0 0 (by decide) (by decide) (by decide) (by kernel_rfl) (rq_lit (by kernel_rfl) (by kernel_rfl) (by kernel_rfl) (by kernel_rfl))
noncomputable def k201:Spec Tryz.prog:=sRnd 2 0 1 (-2) 0 3 (by decide) (by decide) (by decide) (by kernel_rfl) (rq_lit (by kernel_rfl) (by kernel_rfl) (by kernel_rfl) (by kernel_rfl))
noncomputable def k0025:Spec Tryz.prog:=sRnd 0 0 25 0 0 (-25) (by decide) (by decide) (by decide) (by kernel_rfl) (rq_lit (by kernel_rfl) (by kernel_rfl) (by kernel_rfl) (by kernel_rfl))
noncomputable def k6025:Spec Tryz.prog:=sRnd 6 0 25 (-6) 0 11 (by decide) (by decide) (by decide) (by kernel_rfl) (rq_lit (by kernel_rfl) (by kernel_rfl) (by kernel_rfl) (by kernel_rfl))
noncomputable def k401:Spec Tryz.prog:=sRnd 4 0 1 (-4) 0 15 (by decide) (by decide) (by decide) (by kernel_rfl) (rq_lit (by kernel_rfl) (by kernel_rfl) (by kernel_rfl) (by kernel_rfl))
noncomputable def k041:Spec Tryz.prog:=sRnd 0 4 1 0 4 15 (by decide) (by decide) (by decide) (by kernel_rfl) (rq_lit (by kernel_rfl) (by kernel_rfl) (by kernel_rfl) (by kernel_rfl))
noncomputable def k227:Spec Tryz.prog:=sRnd 2 2 7 (-2) 2 1 (by decide) (by decide) (by decide) (by kernel_rfl) (rq_lit (by kernel_rfl) (by kernel_rfl) (by kernel_rfl) (by kernel_rfl))
theorem fq_eq {x y:Rat} (e:decide (x=y)=true) (h:Fit y):SV.tup [.a (fA x),nI' (ansK x)]=.tup [.a (fC y),nI' 0]:=by
 rw [of_decide_eq_true e,(fA_fit h).1,(fA_fit h).2]
theorem fit14:Fit (Rat.divInt 1 4):=(sz_divInt (by decide) (sz_small (by decide)) (sz_small (by decide)):Sz 1 (Rat.divInt 1 4)).fit (by decide)
noncomputable def kSquare:Spec Tryz.prog:=(sMSq may00 may10).conv (.tup [.a (fC (Rat.divInt 1 4)),nI' 0]) (fq_eq (by kernel_rfl) fit14)
noncomputable def kLies:Spec Tryz.prog:=(sMLies may00 may20 (s:=false) (by kernel_rfl) (c:=0) (by kernel_rfl)).conv (.tup [nI' 1,nI' 0]) (by kernel_rfl)
abbrev lnQ:RQ:=⟨Rat.divInt 0 1,gint 1 0,Rat.divInt (-2) 1⟩
theorem ln_fit:FitC lnQ:=⟨sz_lit1 (by decide),fit_int (by decide) (by decide),sz_lit1 (by decide)⟩
noncomputable def kAxis:Spec Tryz.prog:=(sMAxis may00 may20 (k:=.none) ⟨by kernel_rfl,by kernel_rfl⟩).conv (.tup [.a (cC lnQ),nI' 0]) (mx_eq (by kernel_rfl) (rq_lit (by kernel_rfl) (by kernel_rfl) (by kernel_rfl) (by kernel_rfl)) ln_fit)
noncomputable def kAcross:Spec Tryz.prog:=(sMAcross may00 may40 may04).conv (.tup [.a (cC (cq (-2) 2 1)),nI' 0]) (mx_eq (by kernel_rfl) (rq_lit (by kernel_rfl) (by kernel_rfl) (by kernel_rfl) (by kernel_rfl)) may22.fit)
theorem gq_lit {z w:GQ} (h1:decide (z.re=w.re)=true) (h2:decide (z.im=w.im)=true):z=w:=by
 obtain ⟨a,b⟩:=z
 obtain ⟨c,d⟩:=w
 obtain rfl:a=c:=of_decide_eq_true h1
 obtain rfl:b=d:=of_decide_eq_true h2
 rfl
theorem cq_sz {x y z:Int} (hx:x.natAbs<256) (hy:y.natAbs<256) (hz:z.natAbs<256):RSz KI (cq x y z):=⟨(Sz.small (by decide)).mono (by decide),⟨(Sz.small hx).mono (by decide),(Sz.small hy).mono (by decide)⟩,(Sz.small hz).mono (by decide)⟩
abbrev lq (x y z:Int):RQ:=⟨Rat.divInt 0 1,gint x y,Rat.divInt z 1⟩
theorem lq_sz {x y z:Int} (hx:x.natAbs<256) (hy:y.natAbs<256) (hz:z.natAbs<256):RSz KI (lq x y z):=⟨(Sz.small (by decide)).mono (by decide),⟨(Sz.small hx).mono (by decide),(Sz.small hy).mono (by decide)⟩,(Sz.small hz).mono (by decide)⟩
theorem pa_eq {p:Pt} (h:FitP p):SV.tup [.a (lsX (paC p)),.c (.b (.v (.int .i64 (paK p))))]=.tup [.a (pw p),nI' 0]:=by
 rw [paC_raw,(pa_fit h).1,(pa_fit h).2.1,(pa_fit h).2.2,paK_fit h]
noncomputable def kToldP {p:Pt} (h:FitP p):Spec Tryz.prog:=(sToldP p (h.sz.mono (by decide))).conv (.tup [.a (pw p),nI' 0]) (pa_eq h)
abbrev pA:Pt:=ptI 3 4
abbrev pB:Pt:=ptI 3 (-4)
theorem pA_fit:FitP pA:=ptI_fit (by decide) (by decide)
theorem pB_fit:FitP pB:=ptI_fit (by decide) (by decide)
theorem rt1:RootB (cuX (lq 6 0 (-36)) (cq 0 0 (-25))) 4 9 2 3:=⟨by kernel_rfl,by kernel_rfl,by decide,by decide,by decide,by decide,dig_big (k:=1) (by decide) (by decide),dig_big (k:=1) (by decide) (by decide),by decide,Nat.le_trans (sz_small (by decide)) (by decide),Nat.le_trans (sz_small (by decide)) (by decide)⟩
theorem rt2:RootB (cuX (lq 1 0 (-1)) (cq 0 0 (-1))) 3 4 1 2:=⟨by kernel_rfl,by kernel_rfl,by decide,by decide,by decide,by decide,dig_big (k:=1) (by decide) (by decide),dig_big (k:=1) (by decide) (by decide),by decide,Nat.le_trans (sz_small (by decide)) (by decide),Nat.le_trans (sz_small (by decide)) (by decide)⟩
abbrev plK:List Cd:=plC (gint 3 4)++plC (gint 3 (-4))
theorem one_ne0:(cq 0 0 0).a≠0:=of_decide_eq_true (by kernel_rfl:decide ((Rat.divInt 1 1:Rat)≠0)=true)
theorem cn1:cuN (lq 6 0 (-36))≠0:=of_decide_eq_true (by kernel_rfl:decide (cuN (lq 6 0 (-36))≠0)=true)
theorem cn2:cuN (lq 1 0 (-1))≠0:=of_decide_eq_true (by kernel_rfl:decide (cuN (lq 1 0 (-1))≠0)=true)
noncomputable def kCut:Spec Tryz.prog:=(sCutYes (l:=lq 6 0 (-36)) (k:=cq 0 0 (-25)) (lq_sz (by decide) (by decide) (by decide)) (cq_sz (by decide) (by decide) (by decide)) one_ne0 cn1 rt1 (by kernel_rfl)).newsAs [rowT PLT plK] (by
 have e1:gadd (cuF (lq 6 0 (-36)) (cq 0 0 (-25))) (cuB (lq 6 0 (-36)) (Rat.divInt (2:Nat) (3:Nat)))=gint 3 4:=gq_lit (by kernel_rfl) (by kernel_rfl)
 have e2:gsub (cuF (lq 6 0 (-36)) (cq 0 0 (-25))) (cuB (lq 6 0 (-36)) (Rat.divInt (2:Nat) (3:Nat)))=gint 3 (-4):=gq_lit (by kernel_rfl) (by kernel_rfl)
 show [rowT PLT (plC (gadd (cuF (lq 6 0 (-36)) (cq 0 0 (-25))) (cuB (lq 6 0 (-36)) (Rat.divInt (2:Nat) (3:Nat))))++plC (gsub (cuF (lq 6 0 (-36)) (cq 0 0 (-25))) (cuB (lq 6 0 (-36)) (Rat.divInt (2:Nat) (3:Nat)))))]=_
 rw [e1,e2])
noncomputable def kCutNo:Spec Tryz.prog:=sCutNo (l:=lq 1 0 (-1)) (k:=cq 0 0 (-1)) (lq_sz (by decide) (by decide) (by decide)) (cq_sz (by decide) (by decide) (by decide)) one_ne0 cn2 rt2 (by kernel_rfl)
theorem a1_ne:decide ((Rat.divInt 1 1:Rat)=0)=false:=by kernel_rfl
noncomputable def kAx1:Spec Tryz.prog:=(sAxNone may025 may6 a1_ne a1_ne (b:=false) (by kernel_rfl)).newsAs (rgT (lq 6 0 (-36))) (by
 have e:axQ (cq 0 0 (-25)) (cq (-6) 0 11)=lq 6 0 (-36):=rq_lit (by kernel_rfl) (by kernel_rfl) (by kernel_rfl) (by kernel_rfl)
 show rgT (axQ (cq 0 0 (-25)) (cq (-6) 0 11))=_
 rw [e])
noncomputable def kAx2:Spec Tryz.prog:=(sAxNone may00 may10 a1_ne a1_ne (b:=false) (by kernel_rfl)).newsAs (rgT (lq 1 0 (-1))) (by
 have e:axQ (cq 0 0 (-1)) (cq (-1) 0 0)=lq 1 0 (-1):=rq_lit (by kernel_rfl) (by kernel_rfl) (by kernel_rfl) (by kernel_rfl)
 show rgT (axQ (cq 0 0 (-1)) (cq (-1) 0 0))=_
 rw [e])
noncomputable def kLs1:Spec Tryz.prog:=(sMLies may025 may6 (s:=false) (by kernel_rfl) (c:=-1) (by kernel_rfl)).conv (.tup [nI' 2,nI' 0]) (by kernel_rfl)
noncomputable def kLs2:Spec Tryz.prog:=(sMLies may00 may10 (s:=false) (by kernel_rfl) (c:=-1) (by kernel_rfl)).conv (.tup [nI' 2,nI' 0]) (by kernel_rfl)
noncomputable def kSort:RNew Tryz.prog:=sSortP (p:=pA) (q:=pB) pA_fit pB_fit (by kernel_rfl) (by kernel_rfl)
noncomputable def kPts1:Spec Tryz.prog :=
 Spec.auto Tryz.call105 [frS (cq 0 0 (-25)),frS (cq (-6) 0 11)] [] (.tup [.c (.b (.y 0 18 2)),nI' 0]) [rowT PTT (pt2 pB pA)]
  ([kLs1.e,(sMtOf may025.fit).e,(sMtOf may6.fit).e]++sgR 69 a1_ne++[kAx1.e]++sgR 37 a1_ne++[kCut.e,dIdxP PLT plK,dPlace PLT plK,(kToldP pA_fit).e,.app appPt,dIdxP PLT plK,dPlace PLT plK,(kToldP pB_fit).e,.app appPt,kSort.e]) [(2,6)] 1500 Tryz.func105 hmA (by kernel_rfl) (fun β=>by kernel_rfl)
noncomputable def kPts2:Spec Tryz.prog :=
 Spec.auto Tryz.call105 [frS (cq 0 0 (-1)),frS (cq (-1) 0 0)] [] (.tup [.c (.b (.v (.slice none 0 0))),nI' 230]) []
  ([kLs2.e,(sMtOf may00.fit).e,(sMtOf may10.fit).e]++sgR 69 a1_ne++[kAx2.e]++sgR 37 a1_ne++[kCutNo.e]) [(2,6)] 1500 Tryz.func105 hmA (by kernel_rfl) (fun β=>by kernel_rfl)
def sNum13 (k:Int):Spec Tryz.prog:=Spec.auto Tryz.call110 [.one (nI' k)] [] (.one (nI' k)) [] [] [] 400 Tryz.func110 hmA (by kernel_rfl) (fun β=>by kernel_rfl)
def eqF14:Ev Tryz.prog:=eqEvF (fR (Rat.divInt 1 4)) (fR (Rat.divInt 1 4)) true (R4.eq_iff.2 rfl)
def eqQ (r:RQ):Ev Tryz.prog:=eqC1 (fR r.a) (fR r.b.re) (fR r.b.im) (fR r.c)
noncomputable def sKnown13:Spec Tryz.prog :=
 Spec.auto Tryz.call104 [] [] (tB' true) []
  [k001.e,k101.e,kSquare.e,k201.e,kLies.e,k0025.e,k6025.e,kPts1.e,k101.e,kPts2.e,k201.e,kAxis.e,k401.e,k041.e,kAcross.e,(sR3Int 0 (by decide)).e,(sR4Int 1 0).e,(sR3Int (-2) (by decide)).e,
   (sR3Small 1 4 (by decide) (by decide) (by decide) (Nat.le_trans (sz_small (by decide)) (by decide)) (Nat.le_trans (sz_small (by decide)) (by decide))).e,eqF14,(sNum13 0).e,(sNum13 0).e,dIdxPt (pt2 pB pA),dPt0 pB pA,(sR7Int 3 (-4)).e,eqEvPt (ptB_iff.2 rfl:ptB pB pB=true),(sNum13 0).e,(sNum13 230).e,eqQ lnQ,(sNum13 0).e,k227.e,eqQ (cq (-2) 2 1),(sNum13 0).e]
  [(2,2007009),(3,8),(5,8),(6,4007009),(7,5008010),(9,60)] 3000 Tryz.func104 hmA (by kernel_rfl) (fun β=>by kernel_rfl)
end Go.Proofs.YtpccljaooghafaaGreat.Y
end
section
namespace Go.Proofs.YtpccljaooghafaaGreat.Y
open Go Go.RowKit
set_option maxRecDepth 100000
abbrev c4 (p:Cp):List Lf:=rL p.a++rL p.b++rL p.b'++rL p.c
abbrev c4S (p:Cp):SV:=.one (.a (c4 p))
def smC (p:Cp):Bool:=smB 60 p.a p.c&&smB 60 p.b p.b'
section
abbrev sm2A:List SV:=[.one (svI 60),.one (.c (.b (.s 0 0 2 2)))]
noncomputable def smCE (p:Cp) {b:Bool} (h:smC p=b):Ev Tryz.prog:=(sR4Small2 60 p.a p.c p.b p.b' h).e
theorem sm2_ok (p q:Cp) {b:Bool} (hb:(smC p&&smC q)=b) (β:Env) (w:World) (hh:(Ob.box (c4 p++c4 q) CIT).holds β w (β 0)) :
  Calls Tryz.prog 103 (sm2A.map (SV.den β)).toArray w fun e w'=>e=.returned (.bool b)∧Below w.heap.size w w':=by
 cases h1:smC p with
 | false =>
  rw [h1] at hb
  subst hb
  exact bspec_ok [smCE p h1] [(4,20)] 800 Tryz.func103 hmA (fun β=>by kernel_rfl) (by kernel_rfl) (fun β=>rfl) β w hh
 | true =>
  rw [h1] at hb
  have h2:smC q=b:=hb
  cases b<;>exact bspec_ok [smCE p h1,smCE q h2] [(4,20)] 800 Tryz.func103 hmA (fun β=>by kernel_rfl) (by kernel_rfl) (fun β=>rfl) β w hh
noncomputable def sSmTwo (p q:Cp) {b:Bool} (hb:(smC p&&smC q)=b):BSpec Tryz.prog :=
 ⟨103,Tryz.call103,sm2A,c4 p++c4 q,CIT,.bool b,sm2_ok p q hb,by kernel_rfl,fun _=>rfl⟩
noncomputable def ckR:Cp→Ev Tryz.prog
 | .ok r h=>(sRCk h).e
 | .no _ _ _ _ h=>(sRCkNo h).e
abbrev my2A:List SV:=[.one (.c (.b (.s 0 0 2 2)))]
theorem my2_ok (p q:Cp) {b:Bool} (hb:(p.B&&q.B)=b) (β:Env) (w:World) (hh:(Ob.box (c4 p++c4 q) CIT).holds β w (β 0)) :
  Calls Tryz.prog 106 (my2A.map (SV.den β)).toArray w fun e w'=>e=.returned (.bool b)∧Below w.heap.size w w':=by
 subst hb
 cases p with
 | no a b b' c hp=>exact bspec_ok [ckR (.no a b b' c hp)] [] 800 Tryz.func106 hmA (fun β=>by kernel_rfl) (by kernel_rfl) (fun β=>rfl) β w hh
 | ok r hr=>cases q with
  | no a b b' c hp=>exact bspec_ok [ckR (.ok r hr),ckR (.no a b b' c hp)] [] 800 Tryz.func106 hmA (fun β=>by kernel_rfl) (by kernel_rfl) (fun β=>rfl) β w hh
  | ok s hs=>exact bspec_ok [ckR (.ok r hr),ckR (.ok s hs)] [] 800 Tryz.func106 hmA (fun β=>by kernel_rfl) (by kernel_rfl) (fun β=>rfl) β w hh
noncomputable def sMayTwo (p q:Cp) {b:Bool} (hb:(p.B&&q.B)=b):BSpec Tryz.prog :=
 ⟨106,Tryz.call106,my2A,c4 p++c4 q,CIT,.bool b,my2_ok p q hb,by kernel_rfl,fun _=>rfl⟩
end
end Go.Proofs.YtpccljaooghafaaGreat.Y
end
section
namespace Go.Proofs.YtpccljaooghafaaGreat.Y
open Go Go.RowKit
set_option maxRecDepth 100000
structure OwnSp (P:Program) where
 f:FuncId
 en:Enters P f
 args:List SV
 row:Ob
 res:SV
 ok:∀ β w,Calls P f (args.map (SV.den β)).toArray w fun e w'=>∃ g:Pl,w.heap.size≤g.b∧e=.returned (res.den (fun _=>g))∧row.holds (fun _=>g) w' g∧Below w.heap.size w w'
 cl:(row.of (fun _=>false)&&(args.all (SV.of fun _=>false)&&res.of fun k=>Nat.beq k 0))=true
def OwnSp.e {P:Program} (S:OwnSp P):Ev P:=.dyn (fun o _ _=>isCallB o) fun _ xs ob=>lit ob.length fun n =>
 .own S.f S.en (fun β=>(S.args.map (SV.den β)).toArray) [] n S.row (S.res.ren fun _=>n) [] (fun β w _=>by
  have hc:=S.cl
  simp only [Bool.and_eq_true] at hc
  obtain ⟨c2,c3,c4⟩:=hc
  refine (S.ok β w).mono ?_
  rintro e w' ⟨g,k1,rfl,k3,k4⟩
  have hg:extE β n [g] n=g:=extE_in (i:=0) (xs:=[g]) rfl
  refine ⟨g,[],⟨k1,(fun _ h=>by cases h),(fun _ h=>by cases h)⟩,?_,Ob.holds_congr (q:=fun _=>false) (fun k hk=>by cases hk) _ c2 k3,trivial,k4⟩
  rw [SV.den_ren]
  congr 1
  exact SV.den_congr (q:=fun k=>Nat.beq k 0) (fun k _=>hg.symm) _ c4)
theorem own_ok {P:Program} {f:FuncId} {fn:Func} {args:List SV} {row:Ob} {res:SV} {K:Nat} (evs:List (Ev P)) (Ns:List (Nat × Nat)) (m:Nat) (hf:P.funcs[f]?=some fn) (hm:P.follows .mixedOrders=true)
  (h:∀ β,(allS P fn args [] evs Ns m (res.ren fun _=>K) [(K,row)] β).map Prod.fst=(allS P fn args [] evs Ns m (res.ren fun _=>K) [(K,row)] β).map Prod.snd)
  (hB:args.all (SV.of fun k=>Nat.blt k 0)=true) (hl:row.layOf.isSome=true) (hr:row.of (fun _=>false)=true) (hres:(res.of fun k=>Nat.beq k 0)=true) (β:Env) (w:World) :
  Calls P f (args.map (SV.den β)).toArray w fun e w'=>∃ g:Pl,w.heap.size≤g.b∧e=.returned (res.den (fun _=>g))∧row.holds (fun _=>g) w' g∧Below w.heap.size w w':=by
 refine (sxN (P:=P) args [] evs Ns m (res.ren fun _=>K) [(K,row)] hf hm (fun β=>ok_of_maps (h β)) hB rfl β w (fun k o ho=>by simp at ho)).mono ?_
 rintro e u ⟨β',q,obj,e1,rfl,_,e4,e5,g,hl2⟩
 refine ⟨β' K,hl2 _ (List.mem_cons_self ..) hl (Nat.zero_le _),?_,Ob.holds_congr (q:=fun _=>false) (fun k hk=>by cases hk) _ hr (e5 _ (List.mem_cons_self ..)),g.bel⟩
 rw [SV.den_ren]
abbrev vlQ (r:RQ) (z:GQ):Rat:=r.a*gnorm z+((gmul r.b z).re+(gmul r.b z).re)+r.c
section
variable {r:RQ} {z:GQ} (hr:RSz 1000 r) (hz:GSz 1000 z)
include hr hz in
theorem vl_sz:Sz 20000 (vlQ r z):=(((hr.a.mul hz.norm).add ((hr.b.mul hz).1.add (hr.b.mul hz).1)).add hr.c).mono (by decide)
noncomputable def sR11Value:Spec Tryz.prog :=
 Spec.auto Tryz.call261 [.one (.a (cC r)),gS z] [] (fcS (vlQ r z)) []
  [(sR4Norm (hz.mono (by decide))).e,(sR3Times (hr.a.mono (by decide)) (hz.norm.mono (by decide))).e,(sR4Times (hr.b.mono (by decide)) (hz.mono (by decide))).e,(sCTwice ((hr.b.mul hz).1.mono (by decide))).e,(sR3Plus ((hr.a.mul hz.norm).mono (by decide)) (((hr.b.mul hz).1.add (hr.b.mul hz).1).mono (by decide))).e,
   (sR3Plus (((hr.a.mul hz.norm).add ((hr.b.mul hz).1.add (hr.b.mul hz).1)).mono (by decide)) (hr.c.mono (by decide))).e] [(1,13)] 800 Tryz.func261 hmA (by kernel_rfl) (fun β=>by kernel_rfl)
end
abbrev KP:Nat:=100000
noncomputable def sR4CmpK {z w:GQ} (hz:GSz KP z) (hw:GSz KP w) {r:Bool} (hr:(!(cmpQ z.re w.re==0))=r):Spec Tryz.prog :=
 ⟨171,Tryz.call171,[gS z,gS w],[],.one (svI (cmpG r z w)),[],fun β w' hh=>by
  cases r with
  | true=>exact spec_auto (evs:=[(sR3CmpK (hz.1.mono (by decide)) (hw.1.mono (by decide)) rfl).e,.eqv 12 (.bool (!(cmpQ z.re w.re==0))) (.bool true) (ne_lit hr)]) (Ns:=[]) (m:=400) Tryz.func171 hmA (fun β=>by kernel_rfl) (by kernel_rfl) β w' hh
  | false=>exact spec_auto (evs:=[(sR3CmpK (hz.1.mono (by decide)) (hw.1.mono (by decide)) rfl).e,.eqv 12 (.bool (!(cmpQ z.re w.re==0))) (.bool false) (ne_lit hr),(sR3CmpK (hz.2.mono (by decide)) (hw.2.mono (by decide)) rfl).e]) (Ns:=[]) (m:=400) Tryz.func171 hmA (fun β=>by kernel_rfl) (by kernel_rfl) β w' hh,by kernel_rfl⟩
noncomputable def sR7CmpK {z w:GQ} (hz:GSz KP z) (hw:GSz KP w):Spec Tryz.prog :=
 Spec.auto Tryz.call43 [svP (.fin z),svP (.fin w)] [] (.one (svI (ordI (.fin z) (.fin w)))) [] [(sR4CmpK (z:=z) (w:=w) hz hw rfl).e] [] 800 Tryz.func43 hmA (by kernel_rfl) (fun β=>by kernel_rfl)
section
variable {x:Rat} (h0:0≤x.num) (hx:Sz KP x)
include hx in
theorem rq_sz:(mag x.num.natAbs).size≤4294967296∧dgL x.num.natAbs≤4294967290∧(mag x.den).size≤4294967296∧dgL x.den≤4294967290:=by
 have h1:(mag x.num.natAbs).size≤KP:=hx.1
 have h2:(mag x.den).size≤KP:=hx.2
 have d1:(dig x.num.natAbs).length≤(KP+3)/4:=wl_size h1
 have d2:(dig x.den).length≤(KP+3)/4:=wl_size h2
 exact ⟨Nat.le_trans h1 (by decide),Nat.le_trans d1 (by decide),Nat.le_trans h2 (by decide),Nat.le_trans d2 (by decide)⟩
include h0 hx in
theorem rqY_ok {q:Rat} (hq:q*q=x) (q0:0≤q) (β:Env) (w:World) (hh:∀ (k:Nat) (t:Thing),([]:List Thing)[k]?=some t→t.D w (β k)) :
  Calls Tryz.prog 31 (([fcS x]:List SV).map (SV.den β)).toArray w fun e w'=>∃ xs:List Pl,freshS β w 0 xs∧e=.returned ((SV.tup [.a (fC q),.c (.b (.v (.bool true)))]).den (extE β 0 xs))∧newHold w' [] xs∧Below w.heap.size w w':=by
 have z:=rq_sz hx
 obtain ⟨e1,e2⟩:=root_of_sq hq q0 (Nat.sqrt_le _) (Nat.lt_succ_sqrt _) (Nat.sqrt_le _) (Nat.lt_succ_sqrt _)
 obtain ⟨n1,n2⟩:=sq_num q
 rw [hq] at n1 n2
 have hn:0≤q.num:=Rat.num_nonneg.2 q0
 have e3:fC q=[.b (.v (.bool false)),.b (.v (.string (mag x.num.natAbs.sqrt))),.b (.v (.bool false)),.b (.v (.string (mag x.den.sqrt)))]:=by
  unfold fC
  rw [decide_eq_false (by omega:¬ q.num<0),e2,show q.num.natAbs=x.num.natAbs.sqrt by omega]
 rw [e3]
 refine (sR3SqrtY h0 z.1 z.2.1 z.2.2.1 z.2.2.2 (Nat.sqrt_le _) (Nat.lt_succ_sqrt _) (Nat.sqrt_le _) (Nat.lt_succ_sqrt _) (decide_eq_true ?_) (decide_eq_true ?_)).ok β w hh
 · have:x.num.natAbs=x.num.natAbs.sqrt*x.num.natAbs.sqrt:=by
    have h5:x.num.natAbs.sqrt=q.num.natAbs:=by omega
    rw [h5,← Int.natAbs_mul,← n1]
   omega
 · rw [e2,n2]; omega
include h0 hx in
theorem rqN_ok (hq:¬ ∃ q:Rat,q*q=x) (β:Env) (w:World) (hh:∀ (k:Nat) (t:Thing),([]:List Thing)[k]?=some t→t.D w (β k)) :
  Calls Tryz.prog 31 (([fcS x]:List SV).map (SV.den β)).toArray w fun e w'=>∃ xs:List Pl,freshS β w 0 xs∧e=.returned ((SV.tup [.a (rL r40),.c (.b (.v (.bool false)))]).den (extE β 0 xs))∧newHold w' [] xs∧Below w.heap.size w w':=by
 have z:=rq_sz hx
 cases h2:decide (x.num.natAbs-x.num.natAbs.sqrt*x.num.natAbs.sqrt=0) with
 | false=>exact (sR3SqrtN1 h0 z.1 z.2.1 z.2.2.1 z.2.2.2 (Nat.sqrt_le _) (Nat.lt_succ_sqrt _) (Nat.sqrt_le _) (Nat.lt_succ_sqrt _) h2).ok β w hh
 | true =>
  cases h3:decide (x.den-x.den.sqrt*x.den.sqrt=0) with
  | false=>exact (sR3SqrtN2 h0 z.1 z.2.1 z.2.2.1 z.2.2.2 (Nat.sqrt_le _) (Nat.lt_succ_sqrt _) (Nat.sqrt_le _) (Nat.lt_succ_sqrt _) h2 h3).ok β w hh
  | true =>
   refine absurd ⟨Rat.divInt (x.num.natAbs.sqrt:Int) (x.den.sqrt:Int),?_⟩ hq
   have l1:=Nat.sqrt_le x.num.natAbs
   have l2:=Nat.sqrt_le x.den
   have k1:x.num.natAbs.sqrt*x.num.natAbs.sqrt=x.num.natAbs:=by have:=of_decide_eq_true h2; omega
   have k2:x.den.sqrt*x.den.sqrt=x.den:=by have:=of_decide_eq_true h3; omega
   rw [Rat.divInt_mul_divInt,← Int.natCast_mul,← Int.natCast_mul,k1,k2,Int.natAbs_of_nonneg h0,Rat.num_divInt_den]
noncomputable def sRqY {q:Rat} (hq:q*q=x) (q0:0≤q):Spec Tryz.prog:=⟨31,Tryz.call31,[fcS x],[],.tup [.a (fC q),.c (.b (.v (.bool true)))],[],rqY_ok h0 hx hq q0,by kernel_rfl⟩
noncomputable def sRqN (hq:¬ ∃ q:Rat,q*q=x):Spec Tryz.prog:=⟨31,Tryz.call31,[fcS x],[],.tup [.a (rL r40),.c (.b (.v (.bool false)))],[],rqN_ok h0 hx hq,by kernel_rfl⟩
end
end Go.Proofs.YtpccljaooghafaaGreat.Y
end
section
namespace Go.Proofs.YtpccljaooghafaaGreat.Y
open Go Go.RowKit
set_option maxRecDepth 100000
abbrev rpNs:List (Nat × Nat):=[(1,6),(3,11),(17,10),(18,8),(19,10),(20,14010011),(23,5),(24,10)]
abbrev rpA (f g:RQ):List SV:=[frS f,frS g]
abbrev bxP (a b:Pt):Ob:=.box (pw a++pw b) PTT
abbrev bxP1 (a:Pt):Ob:=.box (pw a) PTT
abbrev rpR2:SV:=.tup [.c (.b (.s 0 0 2 2)),.c (.b (.v (.bool true)))]
abbrev rpR1:SV:=.tup [.c (.b (.s 0 0 1 1)),.c (.b (.v (.bool true)))]
section
variable {f g:RQ} (hf:MayC f) (hg:MayC g) (sf:RSz 64 f) (sg:RSz 64 g)
noncomputable def rpL {c:Int} (hs:eqRone f g=false) (hc:cmpQ (fsq f g) one1=c):List (Ev Tryz.prog):=[(sR13Of f).e,(sR13Of g).e,(sR13Lies hf.szh hg.szh (mul_ne hf.ff hg.ff) hs hc).e]
include sf sg in
theorem tc_sz3:RSz 2000 (tcQ f g):=tc_pls sf sg
noncomputable def rpT (hs:eqRone f g=false) (hc:cmpQ (fsq f g) one1=0) {b:Bool} (h:decide ((tcQ f g).a=0)=b):List (Ev Tryz.prog) :=
 rpL hf hg hs hc++[(sR13Prod (hf.szh.mono (by decide)) (hg.szh.mono (by decide))).e,(sR3Neg (fpr f g)).e,(sR13Prod (hf.szh.mono (by decide)) (hf.szh.mono (by decide))).e,(sR13Mixed (hf.szh.mono (by decide)) (hg.szh.mono (by decide)) ((fpr_sz sf sg).neg.mono (by decide)) ((fpr_sz sf sf).mono (by decide))).e]++sgnE0 44 h
noncomputable def oRpTInf (hs:eqRone f g=false) (hc:cmpQ (fsq f g) one1=0) (h:decide ((tcQ f g).a=0)=true):OwnSp Tryz.prog :=
 ⟨108,Tryz.call108,rpA f g,bxP1 .inf,rpR1,own_ok (K:=5) (rpT hf hg sf sg hs hc h++[sR7Inf.e]) rpNs 3000 Tryz.func108 hmA (fun β=>by kernel_rfl) (by kernel_rfl) rfl (by kernel_rfl) (by kernel_rfl),by kernel_rfl⟩
noncomputable def oRpTFin (hs:eqRone f g=false) (hc:cmpQ (fsq f g) one1=0) (h:decide ((tcQ f g).a=0)=false):OwnSp Tryz.prog :=
 ⟨108,Tryz.call108,rpA f g,bxP1 (.fin (rcQ (tcQ f g))),rpR1,own_ok (K:=5) (rpT hf hg sf sg hs hc h++[(sR13Centre (tc_sz3 sf sg) (of_decide_eq_false h)).e,(sR7Of (rcQ (tcQ f g))).e]) rpNs 3000 Tryz.func108 hmA (fun β=>by kernel_rfl) (by kernel_rfl) rfl (by kernel_rfl) (by kernel_rfl),by kernel_rfl⟩
noncomputable def oRpLines (hs:eqRone f g=false) (hc:cmpQ (fsq f g) one1 = -1) (hk:axAt f g .both) (h0:lnD f g≠0):OwnSp Tryz.prog :=
 ⟨108,Tryz.call108,rpA f g,bxP (.fin (rlZ f g)) .inf,rpR2,own_ok (K:=5) (rpL hf hg hs hc++[(sR13Axis hf.szh hg.szh hk).e,(sR13Lines sf sg h0).e,sR7Inf.e]) rpNs 3000 Tryz.func108 hmA (fun β=>by kernel_rfl) (by kernel_rfl) rfl (by kernel_rfl) (by kernel_rfl),by kernel_rfl⟩
section
variable {L k:RQ} (hL:RSz 300 L) (hk:RSz 64 k) (h0:k.a≠0) (hN:xN L≠0)
include hk h0 in
theorem rz_sz:GSz 200 (rcQ k):=(GSz.scale (z:=⟨-k.b.re,k.b.im⟩) (i:=64) ⟨hk.b.1.neg,hk.b.2⟩ (div_sz one_sz hk.a h0)).mono (by decide)
include hL in
theorem rN_sz:Sz 1300 (xN L):=hL.b.norm.mono (by decide)
include hL hk h0 in
theorem rV_sz:Sz 20000 (xV L k):=vl_sz (hL.mono (by decide)) ((rz_sz hk h0).mono (by decide))
theorem rN2 (hN:xN L≠0):i21*xN L≠0:=mul_ne i21_ne hN
theorem rN4 (hN:xN L≠0):i41*xN L≠0:=mul_ne i41_ne hN
include hL in
theorem rN2_sz:Sz 1400 (i21*xN L):=(i21_sz.mul (rN_sz hL)).mono (by decide)
include hL in
theorem rN4_sz:Sz 1400 (i41*xN L):=(i41_sz.mul (rN_sz hL)).mono (by decide)
include hL hk h0 hN in
theorem rq1_sz:Sz 22000 (xV L k/(i21*xN L)):=(div_sz (rV_sz hL hk h0) (rN2_sz hL) (rN2 hN)).mono (by decide)
include hL hk h0 hN in
theorem rF_sz:GSz 23000 (xF L k):=((rz_sz hk h0).sub (hL.b.conj.scale (rq1_sz hL hk h0 hN))).mono (by decide)
include hL hk h0 hN in
theorem rH_sz:Sz 42000 (xH L k):=(div_sz ((rV_sz hL hk h0).mul (rV_sz hL hk h0)) (rN4_sz hL) (rN4 hN)).mono (by decide)
include hk h0 in
theorem rR_sz:Sz 700 (cuR k):=(div_sz (fpr_sz hk hk) (hk.a.mul hk.a) (mul_ne h0 h0)).mono (by decide)
include hL hk h0 hN in
theorem rX_sz:Sz 45000 (xX L k):=(div_sz ((rR_sz hk h0).sub (rH_sz hL hk h0 hN)) (rN_sz hL) hN).mono (by decide)
noncomputable def rcE:List (Ev Tryz.prog) :=
 [(sR13Centre (hk.mono (by decide)) h0).e,(sR4Norm (hL.b.mono (by decide))).e,(sR11Value (hL.mono (by decide)) ((rz_sz hk h0).mono (by decide))).e,(sR4Conj L.b).e,
  (sR3Int 2 (by decide)).e,(sR3Times (i21_sz.mono (by decide)) ((rN_sz hL).mono (by decide))).e,(sR3Over ((rV_sz hL hk h0).mono (by decide)) ((rN2_sz hL).mono (by decide)) (rN2 hN)).e,(sR4Scale (hL.b.conj.mono (by decide)) ((rq1_sz hL hk h0 hN).mono (by decide))).e,(sR4Minus ((rz_sz hk h0).mono (by decide)) ((hL.b.conj.scale (rq1_sz hL hk h0 hN)).mono (by decide))).e,
  (sR3Times ((rV_sz hL hk h0).mono (by decide)) ((rV_sz hL hk h0).mono (by decide))).e,(sR3Int 4 (by decide)).e,(sR3Times (i41_sz.mono (by decide)) ((rN_sz hL).mono (by decide))).e,(sR3Over (((rV_sz hL hk h0).mul (rV_sz hL hk h0)).mono (by decide)) ((rN4_sz hL).mono (by decide)) (rN4 hN)).e,
  (sR13Prod (hk.mono (by decide)) (hk.mono (by decide))).e,(sR3Times (hk.a.mono (by decide)) (hk.a.mono (by decide))).e,(sR3Over ((fpr_sz hk hk).mono (by decide)) ((hk.a.mul hk.a).mono (by decide)) (mul_ne h0 h0)).e,
  (sR3Minus ((rR_sz hk h0).mono (by decide)) ((rH_sz hL hk h0 hN).mono (by decide))).e,(sR3Over (((rR_sz hk h0).sub (rH_sz hL hk h0 hN)).mono (by decide)) ((rN_sz hL).mono (by decide)) hN).e]
section
variable (hx0:0≤(xX L k).num)
noncomputable def rcNo (hq:¬ ∃ q:Rat,q*q=xX L k):List (Ev Tryz.prog):=rcE hL hk h0 hN++[(sRqN hx0 ((rX_sz hL hk h0 hN).mono (by decide)) hq).e]
variable {q:Rat} (hq:q*q=xX L k) (q0:0≤q)
include hL hk h0 hN hq in
theorem rq_szq:Sz 45000 q:=by
 obtain ⟨n1,n2⟩:=sq_num q
 rw [hq] at n1 n2
 have hs:=rX_sz hL hk h0 hN
 have z1:(mag (xX L k).num.natAbs).size≤45000:=hs.1
 have z2:(mag ((xX L k).den:Int).natAbs).size≤45000:=hs.2
 rw [n1,Int.natAbs_mul] at z1
 rw [Int.natAbs_natCast,n2] at z2
 refine ⟨mag_mono (Nat.le_mul_self _) z1,?_⟩
 show (mag ((q.den:Int)).natAbs).size≤45000
 rw [Int.natAbs_natCast]
 exact mag_mono (Nat.le_mul_self _) z2
include hL hk h0 hN hq in
theorem rW_sz:GSz 46000 (xW L q):=((hL.b.conj.mul gi_sz).scale (rq_szq hL hk h0 hN hq)).mono (by decide)
include hL hk h0 hN hq in
theorem rP_sz:GSz KP (gadd (xF L k) (xW L q))∧GSz KP (gsub (xF L k) (xW L q)) :=
 ⟨((rF_sz hL hk h0 hN).add (rW_sz hL hk h0 hN hq)).mono (by decide),((rF_sz hL hk h0 hN).sub (rW_sz hL hk h0 hN hq)).mono (by decide)⟩
theorem lt0_lit {c:Int} {b:Bool} (h:decide (0<c)=b):Value.bool (decide (0<c))=.bool b:=by rw [h]
noncomputable def rcYes {b:Bool} (hb:decide (0<ordI (.fin (gadd (xF L k) (xW L q))) (.fin (gsub (xF L k) (xW L q))))=b):List (Ev Tryz.prog) :=
 rcE hL hk h0 hN++[(sRqY hx0 ((rX_sz hL hk h0 hN).mono (by decide)) hq q0).e,(sR4Turn (gconj L.b)).e,(sR4Scale ((hL.b.conj.mul gi_sz).mono (by decide)) ((rq_szq hL hk h0 hN hq).mono (by decide))).e,
  (sR4Plus ((rF_sz hL hk h0 hN).mono (by decide)) ((rW_sz hL hk h0 hN hq).mono (by decide))).e,(sR7Of (gadd (xF L k) (xW L q))).e,(sR4Minus ((rF_sz hL hk h0 hN).mono (by decide)) ((rW_sz hL hk h0 hN hq).mono (by decide))).e,(sR7Of (gsub (xF L k) (xW L q))).e,
  (sR7CmpK (rP_sz hL hk h0 hN hq).1 (rP_sz hL hk h0 hN hq).2).e,.eqv 132 (.bool (decide (0<ordI (.fin (gadd (xF L k) (xW L q))) (.fin (gsub (xF L k) (xW L q)))))) (.bool b) (lt0_lit hb)]
end
end
noncomputable def sRpNoOne (hs:eqRone f g=false) (hc:cmpQ (fsq f g) one1 = -1) (hA:axAt f g .one) (hL:RSz 300 f) (hk:RSz 64 g) (h0:g.a≠0) (hN:xN f≠0) (hx0:0≤(xX f g).num) (hq:¬ ∃ q:Rat,q*q=xX f g):Spec Tryz.prog :=
 Spec.auto Tryz.call108 (rpA f g) [] (.tup [.c (.b (.v (.slice none 0 0))),.c (.b (.v (.bool false)))]) [] (rpL hf hg hs hc++[(sR13Axis hf.szh hg.szh hA).e]++sgnE0 68 hA.1++rcNo hL hk h0 hN hx0 hq) rpNs 3000 Tryz.func108 hmA (by kernel_rfl) (fun β=>by kernel_rfl)
noncomputable def oRpOneSw (hs:eqRone f g=false) (hc:cmpQ (fsq f g) one1 = -1) (hA:axAt f g .one) (hL:RSz 300 f) (hk:RSz 64 g) (h0:g.a≠0) (hN:xN f≠0) (hx0:0≤(xX f g).num) {q:Rat} (hq:q*q=xX f g) (q0:0≤q) (hb:decide (0<ordI (.fin (gadd (xF f g) (xW f q))) (.fin (gsub (xF f g) (xW f q))))=true):OwnSp Tryz.prog :=
 ⟨108,Tryz.call108,rpA f g,bxP (.fin (gsub (xF f g) (xW f q))) (.fin (gadd (xF f g) (xW f q))),rpR2,own_ok (K:=17) (rpL hf hg hs hc++[(sR13Axis hf.szh hg.szh hA).e]++sgnE0 68 hA.1++rcYes hL hk h0 hN hx0 hq q0 hb) rpNs 3000 Tryz.func108 hmA (fun β=>by kernel_rfl) (by kernel_rfl) rfl (by kernel_rfl) (by kernel_rfl),by kernel_rfl⟩
noncomputable def oRpOneIn (hs:eqRone f g=false) (hc:cmpQ (fsq f g) one1 = -1) (hA:axAt f g .one) (hL:RSz 300 f) (hk:RSz 64 g) (h0:g.a≠0) (hN:xN f≠0) (hx0:0≤(xX f g).num) {q:Rat} (hq:q*q=xX f g) (q0:0≤q) (hb:decide (0<ordI (.fin (gadd (xF f g) (xW f q))) (.fin (gsub (xF f g) (xW f q))))=false):OwnSp Tryz.prog :=
 ⟨108,Tryz.call108,rpA f g,bxP (.fin (gadd (xF f g) (xW f q))) (.fin (gsub (xF f g) (xW f q))),rpR2,own_ok (K:=17) (rpL hf hg hs hc++[(sR13Axis hf.szh hg.szh hA).e]++sgnE0 68 hA.1++rcYes hL hk h0 hN hx0 hq q0 hb) rpNs 3000 Tryz.func108 hmA (fun β=>by kernel_rfl) (by kernel_rfl) rfl (by kernel_rfl) (by kernel_rfl),by kernel_rfl⟩
noncomputable def sRpNoTwo (hs:eqRone f g=false) (hc:cmpQ (fsq f g) one1 = -1) (hA:axAt f g .two) (hL:RSz 300 g) (hk:RSz 64 f) (h0:f.a≠0) (hN:xN g≠0) (hx0:0≤(xX g f).num) (hq:¬ ∃ q:Rat,q*q=xX g f):Spec Tryz.prog :=
 Spec.auto Tryz.call108 (rpA f g) [] (.tup [.c (.b (.v (.slice none 0 0))),.c (.b (.v (.bool false)))]) [] (rpL hf hg hs hc++[(sR13Axis hf.szh hg.szh hA).e]++sgnE0 68 hA.1++rcNo hL hk h0 hN hx0 hq) rpNs 3000 Tryz.func108 hmA (by kernel_rfl) (fun β=>by kernel_rfl)
noncomputable def oRpTwoSw (hs:eqRone f g=false) (hc:cmpQ (fsq f g) one1 = -1) (hA:axAt f g .two) (hL:RSz 300 g) (hk:RSz 64 f) (h0:f.a≠0) (hN:xN g≠0) (hx0:0≤(xX g f).num) {q:Rat} (hq:q*q=xX g f) (q0:0≤q) (hb:decide (0<ordI (.fin (gadd (xF g f) (xW g q))) (.fin (gsub (xF g f) (xW g q))))=true):OwnSp Tryz.prog :=
 ⟨108,Tryz.call108,rpA f g,bxP (.fin (gsub (xF g f) (xW g q))) (.fin (gadd (xF g f) (xW g q))),rpR2,own_ok (K:=17) (rpL hf hg hs hc++[(sR13Axis hf.szh hg.szh hA).e]++sgnE0 68 hA.1++rcYes hL hk h0 hN hx0 hq q0 hb) rpNs 3000 Tryz.func108 hmA (fun β=>by kernel_rfl) (by kernel_rfl) rfl (by kernel_rfl) (by kernel_rfl),by kernel_rfl⟩
noncomputable def oRpTwoIn (hs:eqRone f g=false) (hc:cmpQ (fsq f g) one1 = -1) (hA:axAt f g .two) (hL:RSz 300 g) (hk:RSz 64 f) (h0:f.a≠0) (hN:xN g≠0) (hx0:0≤(xX g f).num) {q:Rat} (hq:q*q=xX g f) (q0:0≤q) (hb:decide (0<ordI (.fin (gadd (xF g f) (xW g q))) (.fin (gsub (xF g f) (xW g q))))=false):OwnSp Tryz.prog :=
 ⟨108,Tryz.call108,rpA f g,bxP (.fin (gadd (xF g f) (xW g q))) (.fin (gsub (xF g f) (xW g q))),rpR2,own_ok (K:=17) (rpL hf hg hs hc++[(sR13Axis hf.szh hg.szh hA).e]++sgnE0 68 hA.1++rcYes hL hk h0 hN hx0 hq q0 hb) rpNs 3000 Tryz.func108 hmA (fun β=>by kernel_rfl) (by kernel_rfl) rfl (by kernel_rfl) (by kernel_rfl),by kernel_rfl⟩
theorem rpAx {f g:RQ} (hw:wtB (axQ f g)=false):SV.tup [.a (axC f g .none),.c (.b (.v (.bool (axB f g .none))))]=.tup [.a (cC (rone (axQ f g))),.c (.b (.v (.bool true)))]:=by
 show SV.tup [.a (wxC (axQ f g)),.c (.b (.v (.bool (!wtB (axQ f g)))))]=_
 rw [wx_yes hw,hw]
 rfl
noncomputable def sRpNoNone (hs:eqRone f g=false) (hc:cmpQ (fsq f g) one1 = -1) (hA:axAt f g .none) (hw:wtB (axQ f g)=false) (hL:RSz 300 (rone (axQ f g))) (hk:RSz 64 f) (h0:f.a≠0) (hN:xN (rone (axQ f g))≠0) (hx0:0≤(xX (rone (axQ f g)) f).num) (hq:¬ ∃ q:Rat,q*q=xX (rone (axQ f g)) f):Spec Tryz.prog :=
 Spec.auto Tryz.call108 (rpA f g) [] (.tup [.c (.b (.v (.slice none 0 0))),.c (.b (.v (.bool false)))]) [] (rpL hf hg hs hc++[((sR13Axis hf.szh hg.szh hA).conv (.tup [.a (cC (rone (axQ f g))),.c (.b (.v (.bool true)))]) (rpAx hw)).e]++sgnE0 68 hA.1++rcNo hL hk h0 hN hx0 hq) rpNs 3000 Tryz.func108 hmA (by kernel_rfl) (fun β=>by kernel_rfl)
noncomputable def oRpNoneSw (hs:eqRone f g=false) (hc:cmpQ (fsq f g) one1 = -1) (hA:axAt f g .none) (hw:wtB (axQ f g)=false) (hL:RSz 300 (rone (axQ f g))) (hk:RSz 64 f) (h0:f.a≠0) (hN:xN (rone (axQ f g))≠0) (hx0:0≤(xX (rone (axQ f g)) f).num) {q:Rat} (hq:q*q=xX (rone (axQ f g)) f) (q0:0≤q) (hb:decide (0<ordI (.fin (gadd (xF (rone (axQ f g)) f) (xW (rone (axQ f g)) q))) (.fin (gsub (xF (rone (axQ f g)) f) (xW (rone (axQ f g)) q))))=true):OwnSp Tryz.prog :=
 ⟨108,Tryz.call108,rpA f g,bxP (.fin (gsub (xF (rone (axQ f g)) f) (xW (rone (axQ f g)) q))) (.fin (gadd (xF (rone (axQ f g)) f) (xW (rone (axQ f g)) q))),rpR2,own_ok (K:=17) (rpL hf hg hs hc++[((sR13Axis hf.szh hg.szh hA).conv (.tup [.a (cC (rone (axQ f g))),.c (.b (.v (.bool true)))]) (rpAx hw)).e]++sgnE0 68 hA.1++rcYes hL hk h0 hN hx0 hq q0 hb) rpNs 3000 Tryz.func108 hmA (fun β=>by kernel_rfl) (by kernel_rfl) rfl (by kernel_rfl) (by kernel_rfl),by kernel_rfl⟩
noncomputable def oRpNoneIn (hs:eqRone f g=false) (hc:cmpQ (fsq f g) one1 = -1) (hA:axAt f g .none) (hw:wtB (axQ f g)=false) (hL:RSz 300 (rone (axQ f g))) (hk:RSz 64 f) (h0:f.a≠0) (hN:xN (rone (axQ f g))≠0) (hx0:0≤(xX (rone (axQ f g)) f).num) {q:Rat} (hq:q*q=xX (rone (axQ f g)) f) (q0:0≤q) (hb:decide (0<ordI (.fin (gadd (xF (rone (axQ f g)) f) (xW (rone (axQ f g)) q))) (.fin (gsub (xF (rone (axQ f g)) f) (xW (rone (axQ f g)) q))))=false):OwnSp Tryz.prog :=
 ⟨108,Tryz.call108,rpA f g,bxP (.fin (gadd (xF (rone (axQ f g)) f) (xW (rone (axQ f g)) q))) (.fin (gsub (xF (rone (axQ f g)) f) (xW (rone (axQ f g)) q))),rpR2,own_ok (K:=17) (rpL hf hg hs hc++[((sR13Axis hf.szh hg.szh hA).conv (.tup [.a (cC (rone (axQ f g))),.c (.b (.v (.bool true)))]) (rpAx hw)).e]++sgnE0 68 hA.1++rcYes hL hk h0 hN hx0 hq q0 hb) rpNs 3000 Tryz.func108 hmA (fun β=>by kernel_rfl) (by kernel_rfl) rfl (by kernel_rfl) (by kernel_rfl),by kernel_rfl⟩
end
end Go.Proofs.YtpccljaooghafaaGreat.Y
end
section
namespace Go.Proofs.YtpccljaooghafaaGreat.Y
open Go Go.RowKit
set_option maxRecDepth 100000
theorem sort_own {a b:Pt} {w:World} {β:Env} {evs:List (Ev Tryz.prog)} {src:Ob} (h:∀ β,(allS Tryz.prog Tryz.f252 [r2V] [src] evs [] 800 (.tup [.c (.b (.s 1 0 2 2)),nI' 0]) [(1,.row (pw a++pw b) PTT 2 9)] β).map Prod.fst=(allS Tryz.prog Tryz.f252 [r2V] [src] evs [] 800 (.tup [.c (.b (.s 1 0 2 2)),nI' 0]) [(1,.row (pw a++pw b) PTT 2 9)] β).map Prod.snd)
  (hB:([src].all fun x=>x.of (fun k=>Nat.blt k 1)&&x.own)=true) (hh:src.holds β w (β 0)) :
  Calls Tryz.prog 252 (([r2V]:List SV).map (SV.den β)).toArray w fun e u=>∃ g:Pl,w.heap.size≤g.b∧e=.returned ((SV.tup [.c (.b (.s 0 0 2 2)),nI' 0]).den (fun _=>g))∧(pr2 a b).holds (fun _=>g) u g∧Below w.heap.size w u:=by
 refine (sxN (P:=Tryz.prog) [r2V] [src] evs [] 800 (.tup [.c (.b (.s 1 0 2 2)),nI' 0]) [(1,.row (pw a++pw b) PTT 2 9)] Tryz.func252 hmA (fun β=>ok_of_maps (h β)) (by kernel_rfl) hB β w (fun k o ho=>?_)).mono ?_
 · cases k with
   | zero=>simp only [List.getElem?_cons_zero] at ho; obtain rfl:=Option.some.inj ho; exact hh
   | succ k=>simp at ho
 · rintro e u ⟨β',q,obj,e1,rfl,_,e4,e5,g,hl⟩
   have h5:=e5 _ (List.mem_cons_self ..)
   exact ⟨β' 1,hl _ (List.mem_cons_self ..) rfl (Nat.le_refl 1),rfl,Ob.holds_congr (q:=fun _=>false) (fun k hk=>by cases hk) _ (by kernel_rfl) h5,g.bel⟩
noncomputable def sSortP2 {p q:Pt} (hp:FitP p) (hq:FitP q) (hne:ptB q p=false) (h:decide (ordI q p<0)=true):RRow Tryz.prog :=
 ⟨252,Tryz.call252,[r2V],pr2 p q,pr2 q p,.tup [.c (.b (.s 0 0 2 2)),nI' 0],fun β w hh=>sort_own (evs:=srE hp hq hne h) (fun β=>by kernel_rfl) (by kernel_rfl) hh,by kernel_rfl⟩
noncomputable def sSortQ2 {p q:Pt} (hp:FitP p) (hq:FitP q) (hne:ptB q p=false) (h:decide (ordI q p<0)=false):RRow Tryz.prog :=
 ⟨252,Tryz.call252,[r2V],pr2 p q,pr2 p q,.tup [.c (.b (.s 0 0 2 2)),nI' 0],fun β w hh=>sort_own (evs:=srE hp hq hne h) (fun β=>by kernel_rfl) (by kernel_rfl) hh,by kernel_rfl⟩
abbrev pr1 (p:Pt):Ob:=.row (pw p) PTT 1 9
abbrev r1V:SV:=.one (.c (.b (.r 0 1)))
section
variable {p:Pt} (hp:FitP p)
noncomputable def sPIdx1:RSpec Tryz.prog :=
 RSpec.auto Tryz.call340 [r1V,fvV 325] (pr1 p) (.one (svI (-1))) [(sChk1 hp).e] [] 800 Tryz.func340 hmA (by kernel_rfl) (by kernel_rfl) (by kernel_rfl) (fun β=>by kernel_rfl)
noncomputable def sPHas1:RSpec Tryz.prog :=
 RSpec.auto Tryz.call219 [r1V,fvV 325] (pr1 p) (.one (.c (.b (.v (.bool false))))) [(sPIdx1 hp).e] [] 400 Tryz.func219 hmA (by kernel_rfl) (by kernel_rfl) (by kernel_rfl) (fun β=>by kernel_rfl)
noncomputable def sPCheck1:RSpec Tryz.prog :=
 RSpec.auto Tryz.call166 [r1V] (pr1 p) (.one (svI 0)) [(sPHas1 hp).e] [] 400 Tryz.func166 hmA (by kernel_rfl) (by kernel_rfl) (by kernel_rfl) (fun β=>by kernel_rfl)
end
noncomputable def sPClone1 (p:Pt):RRow Tryz.prog :=
 ⟨363,Tryz.call363,[r1V],pr1 p,pr1 p,r1V,
  rrow_ok (N:=2) [.app appPt,.app appPt] [] 400 Tryz.func363 hmA (fun β=>by kernel_rfl) (by kernel_rfl) (by kernel_rfl) (by kernel_rfl),by kernel_rfl⟩
def sLen641:Spec Tryz.prog :=
 Spec.auto Tryz.call427 [.one (.c (.b (.v (.int .u64 1))))] [] (.one (svI 1)) [] [] [] 400 Tryz.func427 hmA (by kernel_rfl) (fun β=>by kernel_rfl)
def sBits1:Spec Tryz.prog :=
 Spec.auto Tryz.call406 [.one (.c (.b (.v (.int .u64 1))))] [] (.one (svI 1)) [] [sLen641.e] [] 400 Tryz.func406 hmA (by kernel_rfl) (fun β=>by kernel_rfl)
noncomputable def sIns1 (p:Pt):MSpec Tryz.prog :=
 ⟨418,Tryz.call418,[r1V,.one (svI 0),.one (svI 1),fvV 167],[],pr1 p,pr1 p,.tup [],[],
  mrow_ok [] [(4,17),(6,1015016)] 800 Tryz.func418 hmA (fun β=>by kernel_rfl) (by kernel_rfl) (by kernel_rfl),by kernel_rfl⟩
noncomputable def sPdq1 (p:Pt):MSpec Tryz.prog :=
 ⟨405,Tryz.call405,[r1V,.one (svI 0),.one (svI 1),.one (svI 1),fvV 167],[],pr1 p,pr1 p,.tup [],[],
  mrow_ok [(sIns1 p).e] [(17,17)] 800 Tryz.func405 hmA (fun β=>by kernel_rfl) (by kernel_rfl) (by kernel_rfl),by kernel_rfl⟩
noncomputable def sSort1 (p:Pt):MSpec Tryz.prog :=
 ⟨364,Tryz.call364,[r1V,fvV 167],[],pr1 p,pr1 p,.tup [],[],
  mrow_ok [sBits1.e,(sPdq1 p).e] [] 800 Tryz.func364 hmA (fun β=>by kernel_rfl) (by kernel_rfl) (by kernel_rfl),by kernel_rfl⟩
noncomputable def sCompact1 (p:Pt):RSpec Tryz.prog :=
 RSpec.auto Tryz.call365 [r1V] (pr1 p) r1V [] [(6,10)] 400 Tryz.func365 hmA (by kernel_rfl) (by kernel_rfl) (by kernel_rfl) (fun β=>by kernel_rfl)
theorem slice1_run (w:World) (b:Nat) (c:Nat) (hc:1≤c) :
  (Instr.sliceAt PSL (.slice (some ⟨b,0,none⟩) 1 c) none (some (.int .i64 1)) (some (.int .i64 1))).run Tryz.prog w=.ok (.slice (some ⟨b,0,none⟩) 1 1) w:=by
 rw [run_sliceAt_slice w PSL _ _ _ _ (by kernel_rfl),run_slice_any w PSL _ _ _ (by kernel_rfl)]
 have hz:(sizeOf (Tryz.prog.elem PSL)).run Tryz.prog w=.ok 9 w:=by kernel_rfl
 have h1:(1:Int)≤(c:Int):=by omega
 simp [Instr.sliceBounds,run_sliceBound_if,h1,hz,Result.andThen,sliced,Addr.add]
def rdS1 (cs:List Lf):Ev Tryz.prog:=.rd 22 (.slice PSL (.tmp 17) none (some (.tmp 19)) (some (.tmp 21))) (fun β=>[.slice (some ⟨(β 1).b,0,none⟩) 1 ((β 1).c 0),.int .i64 1,.int .i64 1]) [(1,.row cs PTT 1 9)] 0 (.one (.c (.b (.s 1 0 1 1)))) [] (fun β w h ρ op ho hx=>by
 have h1:(Ob.row cs PTT 1 9).holds β w (β 1):=h _ (List.mem_singleton.2 rfl)
 obtain ⟨_,cur,_,_,h2,_⟩:=h1
 have h3:ρ (.tmp 17)=.slice (some ⟨(β 1).b,0,none⟩) 1 ((β 1).c 0)∧ρ (.tmp 19)=.int .i64 1∧ρ (.tmp 21)=.int .i64 1:=by simpa [Op.operands] using hx
 refine ⟨[],w,(fun _ h=>by cases h),?_,trivial,Below.refl _ _⟩
 rw [extE_nil]
 unfold execOp
 rw [ho]
 simp only [h3.1,h3.2.1,h3.2.2,Option.map_some,Option.map_none]
 simp [slice1_run w _ _ h2,Result.andThen]
 rfl)
theorem sort1_own {p:Pt} (hp:FitP p) (β:Env) (w:World) (hh:(pr1 p).holds β w (β 0)) :
  Calls Tryz.prog 252 (([r1V]:List SV).map (SV.den β)).toArray w fun e u=>∃ g:Pl,w.heap.size≤g.b∧e=.returned ((SV.tup [.c (.b (.s 0 0 1 1)),nI' 0]).den (fun _=>g))∧(pr1 p).holds (fun _=>g) u g∧Below w.heap.size w u:=by
 refine (sxN (P:=Tryz.prog) [r1V] [pr1 p] [(sPCheck1 hp).e,(sPClone1 p).e,(sSort1 p).e,(sCompact1 p).e,rdS1 (pw p)] [] 800 (.tup [.c (.b (.s 1 0 1 1)),nI' 0]) [(1,pr1 p)] Tryz.func252 hmA (fun β=>ok_of_maps (by kernel_rfl)) (by kernel_rfl) (by kernel_rfl) β w (fun k o ho=>?_)).mono ?_
 · cases k with
   | zero=>simp only [List.getElem?_cons_zero] at ho; obtain rfl:=Option.some.inj ho; exact hh
   | succ k=>simp at ho
 · rintro e u ⟨β',q,obj,e1,rfl,_,e4,e5,g,hl⟩
   have h5:=e5 _ (List.mem_cons_self ..)
   exact ⟨β' 1,hl _ (List.mem_cons_self ..) rfl (Nat.le_refl 1),rfl,Ob.holds_congr (q:=fun _=>false) (fun k hk=>by cases hk) _ (by kernel_rfl) h5,g.bel⟩
noncomputable def sSortOne {p:Pt} (hp:FitP p):RRow Tryz.prog :=
 ⟨252,Tryz.call252,[r1V],pr1 p,pr1 p,.tup [.c (.b (.s 0 0 1 1)),nI' 0],sort1_own hp,by kernel_rfl⟩
end Go.Proofs.YtpccljaooghafaaGreat.Y
end
section
namespace Go.Proofs.YtpccljaooghafaaGreat.Y
open Go Go.RowKit
set_option maxRecDepth 100000
theorem ratAny_ok (x:R4) (β:Env) (w:World) (hh:∀ (k:Nat) (t:Thing),([]:List Thing)[k]?=some t→t.D w (β k)) :
  Calls Tryz.prog 276 (([.one (.a (rL x))]:List SV).map (SV.den β)).toArray w fun e w'=>∃ xs:List Pl,freshS β w 0 xs∧e=.returned ((SV.one (.c (.b (.z 0 0)))).den (extE β 0 xs))∧newHold w' [anyT] xs∧Below w.heap.size w w':=by
 by_cases h:IsFrac (rawV x.b x.c x.s x.t)
 · obtain ⟨y,hy,hv⟩:=h
   obtain ⟨b,s,c,t⟩:=x
   obtain ⟨rfl,rfl,rfl,rfl⟩:=agg4 hv
   refine ((sRatIn hy).ok β w hh).mono ?_
   rintro e w' ⟨xs,h1,h2,h3,h4⟩
   refine ⟨xs,h1,h2,?_,h4⟩
   match xs,h3 with
   | [g],h3=>exact ⟨an_of (ratT y).st h3.1,trivial⟩
 · refine ((sRatNo h).ok β w hh).mono ?_
   rintro e w' ⟨xs,h1,h2,h3,h4⟩
   refine ⟨[nilPl],fun g hg c hc=>?_,?_,⟨fun c hc=>hc.elim,trivial⟩,h4⟩
   · obtain rfl:=List.mem_singleton.1 hg
     exact hc.elim
   · rw [h2,extE_z]
     rfl
def sRatAny (x:R4):Spec Tryz.prog:=⟨276,Tryz.call276,[.one (.a (rL x))],[],.one (.c (.b (.z 0 0))),[anyT],ratAny_ok x,by kernel_rfl⟩
abbrev anyF4:List Thing:=[anyT,anyT,anyT,anyT]
noncomputable def sMtOfAny (p:Cp):Spec Tryz.prog :=
 Spec.auto Tryz.call247 [c4S p] [] (rgV 0) anyF4 [(sRatAny p.a).e,(sRatAny p.b).e,(sRatAny p.b').e,(sRatAny p.c).e] [] 800 Tryz.func247 hmA (by kernel_rfl) (fun β=>by kernel_rfl)
def Spec.argD {P:Program} (S:Spec P) (args:List SV) (h:S.args=args):Spec P:=⟨S.f,S.en,args,S.obs,S.res,S.news,fun β w hh=>h▸S.ok β w hh,h▸S.closed⟩
theorem cpS_c4 (p:Cp):cpS p=c4S p:=by cases p<;>rfl
noncomputable def sPtsNo (p q:Cp) (h:(p.B&&q.B)=false):Spec Tryz.prog :=
 Spec.auto Tryz.call105 [c4S p,c4S q] [] (.tup [.c (.b (.v (.slice none 0 0))),nI' 2]) [] [((sMLiesNo p q h).argD [c4S p,c4S q] (by show [cpS p,cpS q]=_; rw [cpS_c4,cpS_c4])).e,(sMtOfAny p).e,(sMtOfAny q).e] [(2,6)] 1500 Tryz.func105 hmA (by kernel_rfl) (fun β=>by kernel_rfl)
theorem c0_eq (z:GQ) (h:¬ FitG z):SV.tup [.a (lsX (paC (.fin z))),.c (.b (.v (.int .i64 (paK (.fin z)))))]=.tup [.a (.b (.v (.bool false))::g0C),nI' 4]:=by
 show SV.tup [.a (.b (.v (.bool false))::gaC z),.c (.b (.v (.int .i64 (gaK z))))]=_
 rw [(ga_not h).1,(ga_not h).2]
noncomputable def sToldNo {z:GQ} (h:¬ FitG z) (hz:GSz KB z):Spec Tryz.prog:=(sToldP (.fin z) hz).conv (.tup [.a (.b (.v (.bool false))::g0C),nI' 4]) (c0_eq z h)
abbrev ptNil (k:Int):SV:=.tup [.c (.b (.v (.slice none 0 0))),nI' k]
abbrev ptR2:SV:=.tup [.c (.b (.s 0 0 2 2)),nI' 0]
abbrev ptR1:SV:=.tup [.c (.b (.s 0 0 1 1)),nI' 0]
section
variable {f g:RQ} (hf:MayC f) (hg:MayC g) (sf:RSz 64 f) (sg:RSz 64 g)
noncomputable def ptL {s:Bool} {c:Int} (hs:eqRone f g=s) (hc:cmpQ (fsq f g) one1=c):List (Ev Tryz.prog):=[(sMLies hf hg hs hc).e,(sMtOf hf.fit).e,(sMtOf hg.fit).e]
noncomputable def sPtsSame {c:Int} (hs:eqRone f g=true) (hc:cmpQ (fsq f g) one1=c):Spec Tryz.prog :=
 Spec.auto Tryz.call105 (rpA f g) [] (ptNil 7) [] (ptL hf hg hs hc) [(2,6)] 1500 Tryz.func105 hmA (by kernel_rfl) (fun β=>by kernel_rfl)
noncomputable def sPtsApart (hs:eqRone f g=false) (hc:cmpQ (fsq f g) one1=1):Spec Tryz.prog :=
 Spec.auto Tryz.call105 (rpA f g) [] (ptNil 7) [] (ptL hf hg hs hc) [(2,6)] 1500 Tryz.func105 hmA (by kernel_rfl) (fun β=>by kernel_rfl)
section
variable (hs:eqRone f g=false) (hc:cmpQ (fsq f g) one1=0)
theorem fit_inf:FitP .inf:=trivial
noncomputable def oPtTInf (h:decide ((tcQ f g).a=0)=true):OwnSp Tryz.prog :=
 ⟨105,Tryz.call105,rpA f g,pr1 .inf,ptR1,own_ok (K:=18) (ptL hf hg hs hc++[(sTouchInf sf sg h).e,.app appP,(kToldP (p:=.inf) fit_inf).e,.app appPt,(sSortOne (p:=.inf) fit_inf).e]) [(2,6)] 1500 Tryz.func105 hmA (fun β=>by kernel_rfl) (by kernel_rfl) rfl (by kernel_rfl) (by kernel_rfl),by kernel_rfl⟩
noncomputable def oPtTFin (h:decide ((tcQ f g).a=0)=false) (ht:FitP (.fin (cenQ (tcQ f g)))):OwnSp Tryz.prog :=
 ⟨105,Tryz.call105,rpA f g,pr1 (.fin (cenQ (tcQ f g))),ptR1,own_ok (K:=20) (ptL hf hg hs hc++[(sTouchFin sf sg h).e,.app appP,(kToldP (p:=.fin (cenQ (tcQ f g))) ht).e,.app appPt,(sSortOne (p:=.fin (cenQ (tcQ f g))) ht).e]) [(2,6)] 1500 Tryz.func105 hmA (fun β=>by kernel_rfl) (by kernel_rfl) rfl (by kernel_rfl) (by kernel_rfl),by kernel_rfl⟩
noncomputable def sPtTNo (h:decide ((tcQ f g).a=0)=false) (ht:¬ FitG (cenQ (tcQ f g))):Spec Tryz.prog :=
 Spec.auto Tryz.call105 (rpA f g) [] (ptNil 4) [] (ptL hf hg hs hc++[(sTouchFin sf sg h).e,.app appP,(sToldNo ht ((cenJ (tc_pls sf sg) (of_decide_eq_false h)).mono (by decide))).e]) [(2,6)] 1500 Tryz.func105 hmA (by kernel_rfl) (fun β=>by kernel_rfl)
end
section
variable (hs:eqRone f g=false) (hc:cmpQ (fsq f g) one1 = -1)
noncomputable def ptLn (hA:axAt f g .both) (h0:lnD f g≠0):List (Ev Tryz.prog):=ptL hf hg hs hc++sgR 69 hA.1++sgR 74 hA.2++[(sLines sf sg h0).e,dIdxP PLT (plI (lnZ f g)),dPlace PLT (plI (lnZ f g))]
noncomputable def oPtLn (hA:axAt f g .both) (h0:lnD f g≠0) (ht:FitP (.fin (lnZ f g))):OwnSp Tryz.prog :=
 ⟨105,Tryz.call105,rpA f g,pr2 (.fin (lnZ f g)) .inf,ptR2,own_ok (K:=25) (ptLn hf hg sf sg hs hc hA h0++[(kToldP (p:=.fin (lnZ f g)) ht).e,.app appPt,dIdxP PLT (plI (lnZ f g)),dPlace PLT (plI (lnZ f g)),(kToldP (p:=.inf) fit_inf).e,.app appPt,(sSortQ2 (p:=.fin (lnZ f g)) (q:=.inf) ht fit_inf rfl rfl).e]) [(2,6)] 1500 Tryz.func105 hmA (fun β=>by kernel_rfl) (by kernel_rfl) rfl (by kernel_rfl) (by kernel_rfl),by kernel_rfl⟩
include sf sg in
theorem lnz_sz (h0:lnD f g≠0):GSz KB (lnZ f g):=((rgJ (lnV_sz sf sg h0 sf.b.2 sg.b.2)).add ((rgJ (lnV_sz sf sg h0 sf.b.1 sg.b.1)).mul gi_sz)).mono (by decide)
noncomputable def sPtLnNo (hA:axAt f g .both) (h0:lnD f g≠0) (ht:¬ FitG (lnZ f g)):Spec Tryz.prog :=
 Spec.auto Tryz.call105 (rpA f g) [] (ptNil 4) [] (ptLn hf hg sf sg hs hc hA h0++[(sToldNo ht (lnz_sz sf sg h0)).e]) [(2,6)] 1500 Tryz.func105 hmA (by kernel_rfl) (fun β=>by kernel_rfl)
abbrev ctP (l k:RQ) (t:Rat):GQ:=gadd (cuF l k) (cuB l t)
abbrev ctQ (l k:RQ) (t:Rat):GQ:=gsub (cuF l k) (cuB l t)
abbrev ctK (l k:RQ) (t:Rat):List Cd:=plC (ctP l k t)++plC (ctQ l k t)
theorem ct_sz {l k:RQ} (hl:RSz KI l) (hk:RSz KI k) (h0:k.a≠0) (hn:cuN l≠0) {t:Rat} {j:Nat} (h:Sz j t) (hj:j≤1000000):GSz KB (ctP l k t)∧GSz KB (ctQ l k t) :=
 ⟨((cuF_sz hl hk h0 hn).add (cub_sz hl h)).mono (Nat.le_trans (m:=12000+(1811+1000000)+1) (by omega) (by decide)),((cuF_sz hl hk h0 hn).sub (cub_sz hl h)).mono (Nat.le_trans (m:=12000+(1811+1000000)+1) (by omega) (by decide))⟩
noncomputable def sPtNoOne (hA:axAt f g .one) (hl:RSz KI f) (hk:RSz KI g) (h0:g.a≠0) (hn:cuN f≠0) {n d a b:Nat} (h:RootB (cuX f g) n d a b) (ht:decide (Rat.divInt a b*Rat.divInt a b=cuX f g)=false):Spec Tryz.prog :=
 Spec.auto Tryz.call105 (rpA f g) [] (ptNil 230) [] (ptL hf hg hs hc++sgR 69 hA.1++sgR 74 hA.2++[(sAxOne hA.1 hA.2).e]++sgR 37 hA.1++[(sCutNo hl hk h0 hn h ht).e]) [(2,6)] 1500 Tryz.func105 hmA (by kernel_rfl) (fun β=>by kernel_rfl)
noncomputable def sPtBigAOne (hA:axAt f g .one) (hl:RSz KI f) (hk:RSz KI g) (h0:g.a≠0) (hn:cuN f≠0) {n d a b:Nat} (h:RootB (cuX f g) n d a b) (ht:decide (Rat.divInt a b*Rat.divInt a b=cuX f g)=true) (hP:¬ FitG (ctP f g (Rat.divInt a b))) (hz:GSz KB (ctP f g (Rat.divInt a b))):Spec Tryz.prog :=
 Spec.auto Tryz.call105 (rpA f g) [] (ptNil 4) [] (ptL hf hg hs hc++sgR 69 hA.1++sgR 74 hA.2++[(sAxOne hA.1 hA.2).e]++sgR 37 hA.1++[(sCutYes hl hk h0 hn h ht).e,dIdxP PLT (ctK f g (Rat.divInt a b)),dPlace PLT (ctK f g (Rat.divInt a b)),(sToldNo hP hz).e]) [(2,6)] 1500 Tryz.func105 hmA (by kernel_rfl) (fun β=>by kernel_rfl)
noncomputable def sPtBigBOne (hA:axAt f g .one) (hl:RSz KI f) (hk:RSz KI g) (h0:g.a≠0) (hn:cuN f≠0) {n d a b:Nat} (h:RootB (cuX f g) n d a b) (ht:decide (Rat.divInt a b*Rat.divInt a b=cuX f g)=true) (hP:FitP (.fin (ctP f g (Rat.divInt a b)))) (hQ:¬ FitG (ctQ f g (Rat.divInt a b))) (hz:GSz KB (ctQ f g (Rat.divInt a b))):Spec Tryz.prog :=
 Spec.auto Tryz.call105 (rpA f g) [] (ptNil 4) [] (ptL hf hg hs hc++sgR 69 hA.1++sgR 74 hA.2++[(sAxOne hA.1 hA.2).e]++sgR 37 hA.1++[(sCutYes hl hk h0 hn h ht).e,dIdxP PLT (ctK f g (Rat.divInt a b)),dPlace PLT (ctK f g (Rat.divInt a b)),(kToldP hP).e,.app appPt,dIdxP PLT (ctK f g (Rat.divInt a b)),dPlace PLT (ctK f g (Rat.divInt a b)),(sToldNo hQ hz).e]) [(2,6)] 1500 Tryz.func105 hmA (by kernel_rfl) (fun β=>by kernel_rfl)
noncomputable def oPtOneSw (hA:axAt f g .one) (hl:RSz KI f) (hk:RSz KI g) (h0:g.a≠0) (hn:cuN f≠0) {n d a b:Nat} (h:RootB (cuX f g) n d a b) (ht:decide (Rat.divInt a b*Rat.divInt a b=cuX f g)=true) (hP:FitP (.fin (ctP f g (Rat.divInt a b)))) (hQ:FitP (.fin (ctQ f g (Rat.divInt a b)))) (hne:ptB (.fin (ctQ f g (Rat.divInt a b))) (.fin (ctP f g (Rat.divInt a b)))=false) (hb:decide (ordI (.fin (ctQ f g (Rat.divInt a b))) (.fin (ctP f g (Rat.divInt a b)))<0)=true):OwnSp Tryz.prog :=
 ⟨105,Tryz.call105,rpA f g,pr2 (.fin (ctQ f g (Rat.divInt a b))) (.fin (ctP f g (Rat.divInt a b))),ptR2,own_ok (K:=26) (ptL hf hg hs hc++sgR 69 hA.1++sgR 74 hA.2++[(sAxOne hA.1 hA.2).e]++sgR 37 hA.1++[(sCutYes hl hk h0 hn h ht).e,dIdxP PLT (ctK f g (Rat.divInt a b)),dPlace PLT (ctK f g (Rat.divInt a b)),(kToldP hP).e,.app appPt,dIdxP PLT (ctK f g (Rat.divInt a b)),dPlace PLT (ctK f g (Rat.divInt a b)),(kToldP hQ).e,.app appPt,(sSortP2 hP hQ hne hb).e]) [(2,6)] 1500 Tryz.func105 hmA (fun β=>by kernel_rfl) (by kernel_rfl) rfl (by kernel_rfl) (by kernel_rfl),by kernel_rfl⟩
noncomputable def oPtOneIn (hA:axAt f g .one) (hl:RSz KI f) (hk:RSz KI g) (h0:g.a≠0) (hn:cuN f≠0) {n d a b:Nat} (h:RootB (cuX f g) n d a b) (ht:decide (Rat.divInt a b*Rat.divInt a b=cuX f g)=true) (hP:FitP (.fin (ctP f g (Rat.divInt a b)))) (hQ:FitP (.fin (ctQ f g (Rat.divInt a b)))) (hne:ptB (.fin (ctQ f g (Rat.divInt a b))) (.fin (ctP f g (Rat.divInt a b)))=false) (hb:decide (ordI (.fin (ctQ f g (Rat.divInt a b))) (.fin (ctP f g (Rat.divInt a b)))<0)=false):OwnSp Tryz.prog :=
 ⟨105,Tryz.call105,rpA f g,pr2 (.fin (ctP f g (Rat.divInt a b))) (.fin (ctQ f g (Rat.divInt a b))),ptR2,own_ok (K:=26) (ptL hf hg hs hc++sgR 69 hA.1++sgR 74 hA.2++[(sAxOne hA.1 hA.2).e]++sgR 37 hA.1++[(sCutYes hl hk h0 hn h ht).e,dIdxP PLT (ctK f g (Rat.divInt a b)),dPlace PLT (ctK f g (Rat.divInt a b)),(kToldP hP).e,.app appPt,dIdxP PLT (ctK f g (Rat.divInt a b)),dPlace PLT (ctK f g (Rat.divInt a b)),(kToldP hQ).e,.app appPt,(sSortQ2 hP hQ hne hb).e]) [(2,6)] 1500 Tryz.func105 hmA (fun β=>by kernel_rfl) (by kernel_rfl) rfl (by kernel_rfl) (by kernel_rfl),by kernel_rfl⟩
noncomputable def sPtNoTwo (hA:axAt f g .two) (hl:RSz KI g) (hk:RSz KI f) (h0:f.a≠0) (hn:cuN g≠0) {n d a b:Nat} (h:RootB (cuX g f) n d a b) (ht:decide (Rat.divInt a b*Rat.divInt a b=cuX g f)=false):Spec Tryz.prog :=
 Spec.auto Tryz.call105 (rpA f g) [] (ptNil 230) [] (ptL hf hg hs hc++sgR 69 hA.1++[(sAxTwo hA.1 hA.2).e]++sgR 37 hA.1++[(sCutNo hl hk h0 hn h ht).e]) [(2,6)] 1500 Tryz.func105 hmA (by kernel_rfl) (fun β=>by kernel_rfl)
noncomputable def sPtBigATwo (hA:axAt f g .two) (hl:RSz KI g) (hk:RSz KI f) (h0:f.a≠0) (hn:cuN g≠0) {n d a b:Nat} (h:RootB (cuX g f) n d a b) (ht:decide (Rat.divInt a b*Rat.divInt a b=cuX g f)=true) (hP:¬ FitG (ctP g f (Rat.divInt a b))) (hz:GSz KB (ctP g f (Rat.divInt a b))):Spec Tryz.prog :=
 Spec.auto Tryz.call105 (rpA f g) [] (ptNil 4) [] (ptL hf hg hs hc++sgR 69 hA.1++[(sAxTwo hA.1 hA.2).e]++sgR 37 hA.1++[(sCutYes hl hk h0 hn h ht).e,dIdxP PLT (ctK g f (Rat.divInt a b)),dPlace PLT (ctK g f (Rat.divInt a b)),(sToldNo hP hz).e]) [(2,6)] 1500 Tryz.func105 hmA (by kernel_rfl) (fun β=>by kernel_rfl)
noncomputable def sPtBigBTwo (hA:axAt f g .two) (hl:RSz KI g) (hk:RSz KI f) (h0:f.a≠0) (hn:cuN g≠0) {n d a b:Nat} (h:RootB (cuX g f) n d a b) (ht:decide (Rat.divInt a b*Rat.divInt a b=cuX g f)=true) (hP:FitP (.fin (ctP g f (Rat.divInt a b)))) (hQ:¬ FitG (ctQ g f (Rat.divInt a b))) (hz:GSz KB (ctQ g f (Rat.divInt a b))):Spec Tryz.prog :=
 Spec.auto Tryz.call105 (rpA f g) [] (ptNil 4) [] (ptL hf hg hs hc++sgR 69 hA.1++[(sAxTwo hA.1 hA.2).e]++sgR 37 hA.1++[(sCutYes hl hk h0 hn h ht).e,dIdxP PLT (ctK g f (Rat.divInt a b)),dPlace PLT (ctK g f (Rat.divInt a b)),(kToldP hP).e,.app appPt,dIdxP PLT (ctK g f (Rat.divInt a b)),dPlace PLT (ctK g f (Rat.divInt a b)),(sToldNo hQ hz).e]) [(2,6)] 1500 Tryz.func105 hmA (by kernel_rfl) (fun β=>by kernel_rfl)
noncomputable def oPtTwoSw (hA:axAt f g .two) (hl:RSz KI g) (hk:RSz KI f) (h0:f.a≠0) (hn:cuN g≠0) {n d a b:Nat} (h:RootB (cuX g f) n d a b) (ht:decide (Rat.divInt a b*Rat.divInt a b=cuX g f)=true) (hP:FitP (.fin (ctP g f (Rat.divInt a b)))) (hQ:FitP (.fin (ctQ g f (Rat.divInt a b)))) (hne:ptB (.fin (ctQ g f (Rat.divInt a b))) (.fin (ctP g f (Rat.divInt a b)))=false) (hb:decide (ordI (.fin (ctQ g f (Rat.divInt a b))) (.fin (ctP g f (Rat.divInt a b)))<0)=true):OwnSp Tryz.prog :=
 ⟨105,Tryz.call105,rpA f g,pr2 (.fin (ctQ g f (Rat.divInt a b))) (.fin (ctP g f (Rat.divInt a b))),ptR2,own_ok (K:=26) (ptL hf hg hs hc++sgR 69 hA.1++[(sAxTwo hA.1 hA.2).e]++sgR 37 hA.1++[(sCutYes hl hk h0 hn h ht).e,dIdxP PLT (ctK g f (Rat.divInt a b)),dPlace PLT (ctK g f (Rat.divInt a b)),(kToldP hP).e,.app appPt,dIdxP PLT (ctK g f (Rat.divInt a b)),dPlace PLT (ctK g f (Rat.divInt a b)),(kToldP hQ).e,.app appPt,(sSortP2 hP hQ hne hb).e]) [(2,6)] 1500 Tryz.func105 hmA (fun β=>by kernel_rfl) (by kernel_rfl) rfl (by kernel_rfl) (by kernel_rfl),by kernel_rfl⟩
noncomputable def oPtTwoIn (hA:axAt f g .two) (hl:RSz KI g) (hk:RSz KI f) (h0:f.a≠0) (hn:cuN g≠0) {n d a b:Nat} (h:RootB (cuX g f) n d a b) (ht:decide (Rat.divInt a b*Rat.divInt a b=cuX g f)=true) (hP:FitP (.fin (ctP g f (Rat.divInt a b)))) (hQ:FitP (.fin (ctQ g f (Rat.divInt a b)))) (hne:ptB (.fin (ctQ g f (Rat.divInt a b))) (.fin (ctP g f (Rat.divInt a b)))=false) (hb:decide (ordI (.fin (ctQ g f (Rat.divInt a b))) (.fin (ctP g f (Rat.divInt a b)))<0)=false):OwnSp Tryz.prog :=
 ⟨105,Tryz.call105,rpA f g,pr2 (.fin (ctP g f (Rat.divInt a b))) (.fin (ctQ g f (Rat.divInt a b))),ptR2,own_ok (K:=26) (ptL hf hg hs hc++sgR 69 hA.1++[(sAxTwo hA.1 hA.2).e]++sgR 37 hA.1++[(sCutYes hl hk h0 hn h ht).e,dIdxP PLT (ctK g f (Rat.divInt a b)),dPlace PLT (ctK g f (Rat.divInt a b)),(kToldP hP).e,.app appPt,dIdxP PLT (ctK g f (Rat.divInt a b)),dPlace PLT (ctK g f (Rat.divInt a b)),(kToldP hQ).e,.app appPt,(sSortQ2 hP hQ hne hb).e]) [(2,6)] 1500 Tryz.func105 hmA (fun β=>by kernel_rfl) (by kernel_rfl) rfl (by kernel_rfl) (by kernel_rfl),by kernel_rfl⟩
noncomputable def sPtNoNone (hA:axAt f g .none) (hw:decide ((fpr (axQ f g) (axQ f g)).num.sign≤0)=false) (hl:RSz KI (axQ f g)) (hk:RSz KI f) (h0:f.a≠0) (hn:cuN (axQ f g)≠0) {n d a b:Nat} (h:RootB (cuX (axQ f g) f) n d a b) (ht:decide (Rat.divInt a b*Rat.divInt a b=cuX (axQ f g) f)=false):Spec Tryz.prog :=
 Spec.auto Tryz.call105 (rpA f g) [] (ptNil 230) [] (ptL hf hg hs hc++sgR 69 hA.1++[(sAxNone hf hg hA.1 hA.2 hw).e]++sgR 37 hA.1++[(sCutNo hl hk h0 hn h ht).e]) [(2,6)] 1500 Tryz.func105 hmA (by kernel_rfl) (fun β=>by kernel_rfl)
noncomputable def sPtBigANone (hA:axAt f g .none) (hw:decide ((fpr (axQ f g) (axQ f g)).num.sign≤0)=false) (hl:RSz KI (axQ f g)) (hk:RSz KI f) (h0:f.a≠0) (hn:cuN (axQ f g)≠0) {n d a b:Nat} (h:RootB (cuX (axQ f g) f) n d a b) (ht:decide (Rat.divInt a b*Rat.divInt a b=cuX (axQ f g) f)=true) (hP:¬ FitG (ctP (axQ f g) f (Rat.divInt a b))) (hz:GSz KB (ctP (axQ f g) f (Rat.divInt a b))):Spec Tryz.prog :=
 Spec.auto Tryz.call105 (rpA f g) [] (ptNil 4) [] (ptL hf hg hs hc++sgR 69 hA.1++[(sAxNone hf hg hA.1 hA.2 hw).e]++sgR 37 hA.1++[(sCutYes hl hk h0 hn h ht).e,dIdxP PLT (ctK (axQ f g) f (Rat.divInt a b)),dPlace PLT (ctK (axQ f g) f (Rat.divInt a b)),(sToldNo hP hz).e]) [(2,6)] 1500 Tryz.func105 hmA (by kernel_rfl) (fun β=>by kernel_rfl)
noncomputable def sPtBigBNone (hA:axAt f g .none) (hw:decide ((fpr (axQ f g) (axQ f g)).num.sign≤0)=false) (hl:RSz KI (axQ f g)) (hk:RSz KI f) (h0:f.a≠0) (hn:cuN (axQ f g)≠0) {n d a b:Nat} (h:RootB (cuX (axQ f g) f) n d a b) (ht:decide (Rat.divInt a b*Rat.divInt a b=cuX (axQ f g) f)=true) (hP:FitP (.fin (ctP (axQ f g) f (Rat.divInt a b)))) (hQ:¬ FitG (ctQ (axQ f g) f (Rat.divInt a b))) (hz:GSz KB (ctQ (axQ f g) f (Rat.divInt a b))):Spec Tryz.prog :=
 Spec.auto Tryz.call105 (rpA f g) [] (ptNil 4) [] (ptL hf hg hs hc++sgR 69 hA.1++[(sAxNone hf hg hA.1 hA.2 hw).e]++sgR 37 hA.1++[(sCutYes hl hk h0 hn h ht).e,dIdxP PLT (ctK (axQ f g) f (Rat.divInt a b)),dPlace PLT (ctK (axQ f g) f (Rat.divInt a b)),(kToldP hP).e,.app appPt,dIdxP PLT (ctK (axQ f g) f (Rat.divInt a b)),dPlace PLT (ctK (axQ f g) f (Rat.divInt a b)),(sToldNo hQ hz).e]) [(2,6)] 1500 Tryz.func105 hmA (by kernel_rfl) (fun β=>by kernel_rfl)
noncomputable def oPtNoneSw (hA:axAt f g .none) (hw:decide ((fpr (axQ f g) (axQ f g)).num.sign≤0)=false) (hl:RSz KI (axQ f g)) (hk:RSz KI f) (h0:f.a≠0) (hn:cuN (axQ f g)≠0) {n d a b:Nat} (h:RootB (cuX (axQ f g) f) n d a b) (ht:decide (Rat.divInt a b*Rat.divInt a b=cuX (axQ f g) f)=true) (hP:FitP (.fin (ctP (axQ f g) f (Rat.divInt a b)))) (hQ:FitP (.fin (ctQ (axQ f g) f (Rat.divInt a b)))) (hne:ptB (.fin (ctQ (axQ f g) f (Rat.divInt a b))) (.fin (ctP (axQ f g) f (Rat.divInt a b)))=false) (hb:decide (ordI (.fin (ctQ (axQ f g) f (Rat.divInt a b))) (.fin (ctP (axQ f g) f (Rat.divInt a b)))<0)=true):OwnSp Tryz.prog :=
 ⟨105,Tryz.call105,rpA f g,pr2 (.fin (ctQ (axQ f g) f (Rat.divInt a b))) (.fin (ctP (axQ f g) f (Rat.divInt a b))),ptR2,own_ok (K:=30) (ptL hf hg hs hc++sgR 69 hA.1++[(sAxNone hf hg hA.1 hA.2 hw).e]++sgR 37 hA.1++[(sCutYes hl hk h0 hn h ht).e,dIdxP PLT (ctK (axQ f g) f (Rat.divInt a b)),dPlace PLT (ctK (axQ f g) f (Rat.divInt a b)),(kToldP hP).e,.app appPt,dIdxP PLT (ctK (axQ f g) f (Rat.divInt a b)),dPlace PLT (ctK (axQ f g) f (Rat.divInt a b)),(kToldP hQ).e,.app appPt,(sSortP2 hP hQ hne hb).e]) [(2,6)] 1500 Tryz.func105 hmA (fun β=>by kernel_rfl) (by kernel_rfl) rfl (by kernel_rfl) (by kernel_rfl),by kernel_rfl⟩
noncomputable def oPtNoneIn (hA:axAt f g .none) (hw:decide ((fpr (axQ f g) (axQ f g)).num.sign≤0)=false) (hl:RSz KI (axQ f g)) (hk:RSz KI f) (h0:f.a≠0) (hn:cuN (axQ f g)≠0) {n d a b:Nat} (h:RootB (cuX (axQ f g) f) n d a b) (ht:decide (Rat.divInt a b*Rat.divInt a b=cuX (axQ f g) f)=true) (hP:FitP (.fin (ctP (axQ f g) f (Rat.divInt a b)))) (hQ:FitP (.fin (ctQ (axQ f g) f (Rat.divInt a b)))) (hne:ptB (.fin (ctQ (axQ f g) f (Rat.divInt a b))) (.fin (ctP (axQ f g) f (Rat.divInt a b)))=false) (hb:decide (ordI (.fin (ctQ (axQ f g) f (Rat.divInt a b))) (.fin (ctP (axQ f g) f (Rat.divInt a b)))<0)=false):OwnSp Tryz.prog :=
 ⟨105,Tryz.call105,rpA f g,pr2 (.fin (ctP (axQ f g) f (Rat.divInt a b))) (.fin (ctQ (axQ f g) f (Rat.divInt a b))),ptR2,own_ok (K:=30) (ptL hf hg hs hc++sgR 69 hA.1++[(sAxNone hf hg hA.1 hA.2 hw).e]++sgR 37 hA.1++[(sCutYes hl hk h0 hn h ht).e,dIdxP PLT (ctK (axQ f g) f (Rat.divInt a b)),dPlace PLT (ctK (axQ f g) f (Rat.divInt a b)),(kToldP hP).e,.app appPt,dIdxP PLT (ctK (axQ f g) f (Rat.divInt a b)),dPlace PLT (ctK (axQ f g) f (Rat.divInt a b)),(kToldP hQ).e,.app appPt,(sSortQ2 hP hQ hne hb).e]) [(2,6)] 1500 Tryz.func105 hmA (fun β=>by kernel_rfl) (by kernel_rfl) rfl (by kernel_rfl) (by kernel_rfl),by kernel_rfl⟩
end
end
end Go.Proofs.YtpccljaooghafaaGreat.Y
end
section
namespace Go.Proofs.YtpccljaooghafaaGreat.Y
open Go Go.RowKit
set_option maxRecDepth 100000
abbrev lpA (p q:Cp):List SV:=[c4S p,c4S q]
abbrev lpN:List (Nat × Nat):=[(27,9),(33,9)]
noncomputable def lp1 (p q:Cp) (h:(smC p&&smC q)=false):Spec Tryz.prog :=
 Spec.auto Tryz.call11 (lpA p q) [] (tB' true) [] [(sSmTwo p q h).e,sKnown13.e] lpN 2000 Tryz.func11 hmA (by kernel_rfl) (fun β=>by kernel_rfl)
noncomputable def lp2 (p q:Cp) (h:(smC p&&smC q)=true) (n:(p.B&&q.B)=false):Spec Tryz.prog :=
 Spec.auto Tryz.call11 (lpA p q) [] (tB' true) [] [(sSmTwo p q h).e,(sPtsNo p q n).e,(sPtsNo p q n).e,(sMayTwo p q n).e,(sNum13 2).e,sKnown13.e] lpN 2000 Tryz.func11 hmA (by kernel_rfl) (fun β=>by kernel_rfl)
abbrev ValT (fn:FuncId) (f g:RQ) (res:SV):Prop:=∀ (β:Env) (w:World),(∀ (k:Nat) (t:Thing),([]:List Thing)[k]?=some t→t.D w (β k)) →
 Calls Tryz.prog fn ((rpA f g).map (SV.den β)).toArray w fun e w'=>∃ xs:List Pl,freshS β w 0 xs∧e=.returned (res.den (extE β 0 xs))∧newHold w' [] xs∧Below w.heap.size w w'
abbrev OwnT (fn:FuncId) (f g:RQ) (row:Ob) (res:SV):Prop:=∀ (β:Env) (w:World),
 Calls Tryz.prog fn ((rpA f g).map (SV.den β)).toArray w fun e w'=>∃ p:Pl,w.heap.size≤p.b∧e=.returned (res.den (fun _=>p))∧row.holds (fun _=>p) w' p∧Below w.heap.size w w'
abbrev ptsF:FuncId:=105
abbrev refF:FuncId:=108
abbrev rpNil:SV:=.tup [.c (.b (.v (.slice none 0 0))),.c (.b (.v (.bool false)))]
section
variable {f g:RQ}
def pNil {k:Int} (h:ValT ptsF f g (ptNil k)):Spec Tryz.prog:=⟨ptsF,Tryz.call105,rpA f g,[],ptNil k,[],h,by kernel_rfl⟩
def pOne {A:Pt} (h:OwnT ptsF f g (pr1 A) ptR1):OwnSp Tryz.prog:=⟨ptsF,Tryz.call105,rpA f g,pr1 A,ptR1,h,by kernel_rfl⟩
def pTwo {A B:Pt} (h:OwnT ptsF f g (pr2 A B) ptR2):OwnSp Tryz.prog:=⟨ptsF,Tryz.call105,rpA f g,pr2 A B,ptR2,h,by kernel_rfl⟩
def rNil (h:ValT refF f g rpNil):Spec Tryz.prog:=⟨refF,Tryz.call108,rpA f g,[],rpNil,[],h,by kernel_rfl⟩
def rOne {A:Pt} (h:OwnT refF f g (bxP1 A) rpR1):OwnSp Tryz.prog:=⟨refF,Tryz.call108,rpA f g,bxP1 A,rpR1,h,by kernel_rfl⟩
def rTwo {A B:Pt} (h:OwnT refF f g (bxP A B) rpR2):OwnSp Tryz.prog:=⟨refF,Tryz.call108,rpA f g,bxP A B,rpR2,h,by kernel_rfl⟩
end
section
variable {f g:RQ} (hf:MayC f) (hg:MayC g) (h:(smC (.ok f hf)&&smC (.ok g hg))=true)
noncomputable def lpL {s:Bool} {c:Int} (hs:eqRone f g=s) (hc:cmpQ (fsq f g) one1=c):Ev Tryz.prog:=(sR13Lies hf.szh hg.szh (mul_ne hf.ff hg.ff) hs hc).e
noncomputable def lpP (P:Ev Tryz.prog):List (Ev Tryz.prog):=[(sSmTwo (.ok f hf) (.ok g hg) h).e,P,P,(sMayTwo (.ok f hf) (.ok g hg) rfl).e]
noncomputable def lpSame {c:Int} (hs:eqRone f g=true) (hc:cmpQ (fsq f g) one1=c):Spec Tryz.prog :=
 Spec.auto Tryz.call11 (lpA (.ok f hf) (.ok g hg)) [] (tB' true) [] (lpP hf hg h (sPtsSame hf hg hs hc).e++[lpL hf hg hs hc,(sNum13 7).e,sKnown13.e]) lpN 2000 Tryz.func11 hmA (by kernel_rfl) (fun β=>by kernel_rfl)
noncomputable def lpApart (hs:eqRone f g=false) (hc:cmpQ (fsq f g) one1=1):Spec Tryz.prog :=
 Spec.auto Tryz.call11 (lpA (.ok f hf) (.ok g hg)) [] (tB' true) [] (lpP hf hg h (sPtsApart hf hg hs hc).e++[lpL hf hg hs hc,lpL hf hg hs hc,(sNum13 7).e,sKnown13.e]) lpN 2000 Tryz.func11 hmA (by kernel_rfl) (fun β=>by kernel_rfl)
noncomputable def lpNoRoot (hs:eqRone f g=false) (hc:cmpQ (fsq f g) one1 = -1) (hp:ValT ptsF f g (ptNil 230)) (hr:ValT refF f g rpNil):Spec Tryz.prog :=
 Spec.auto Tryz.call11 (lpA (.ok f hf) (.ok g hg)) [] (tB' true) [] (lpP hf hg h (pNil hp).e++[lpL hf hg hs hc,lpL hf hg hs hc,(rNil hr).e,(sNum13 230).e,sKnown13.e]) lpN 2000 Tryz.func11 hmA (by kernel_rfl) (fun β=>by kernel_rfl)
noncomputable def lpOneBig {A:Pt} (hs:eqRone f g=false) (hc:cmpQ (fsq f g) one1=0) (hp:ValT ptsF f g (ptNil 4)) (hr:OwnT refF f g (bxP1 A) rpR1) (hA:¬ FitP A):Spec Tryz.prog :=
 Spec.auto Tryz.call11 (lpA (.ok f hf) (.ok g hg)) [] (tB' true) [] (lpP hf hg h (pNil hp).e++[lpL hf hg hs hc,lpL hf hg hs hc,(rOne hr).e,(sR7Fits A (iff_false_of hA)).e,(sNum13 4).e,sKnown13.e]) lpN 2000 Tryz.func11 hmA (by kernel_rfl) (fun β=>by kernel_rfl)
noncomputable def eqPtS (A:Pt):Ev Tryz.prog:=eqEvPt (ptB_iff.2 rfl:ptB A A=true)
noncomputable def lpOne {A:Pt} (hs:eqRone f g=false) (hc:cmpQ (fsq f g) one1=0) (hp:OwnT ptsF f g (pr1 A) ptR1) (hr:OwnT refF f g (bxP1 A) rpR1) (hA:FitP A):Spec Tryz.prog :=
 Spec.auto Tryz.call11 (lpA (.ok f hf) (.ok g hg)) [] (tB' true) [] (lpP hf hg h (pOne hp).e++[lpL hf hg hs hc,lpL hf hg hs hc,(rOne hr).e,(sR7Fits A (iff_true_of hA)).e,(sNum13 0).e,eqPtS A,(sR7Int 9 9).e,eqPtS A,sKnown13.e]) lpN 2000 Tryz.func11 hmA (by kernel_rfl) (fun β=>by kernel_rfl)
noncomputable def lpTwoBigE {A B:Pt} (hs:eqRone f g=false) (hc:cmpQ (fsq f g) one1 = -1) (hp:ValT ptsF f g (ptNil 4)) (hr:OwnT refF f g (bxP A B) rpR2) {a b:Bool} (hA:a=true↔FitP A) (hB:b=true↔FitP B):List (Ev Tryz.prog) :=
 lpP hf hg h (pNil hp).e++[lpL hf hg hs hc,lpL hf hg hs hc,(rTwo hr).e,(sR7Fits A hA).e,(sR7Fits B hB).e,(sNum13 4).e,sKnown13.e]
include hf hg h in
theorem lpTwoBig_ok {A B:Pt} (hs:eqRone f g=false) (hc:cmpQ (fsq f g) one1 = -1) (hp:ValT ptsF f g (ptNil 4)) (hr:OwnT refF f g (bxP A B) rpR2) {a b:Bool} (hA:a=true↔FitP A) (hB:b=true↔FitP B) (hab:(a&&b)=false) (β:Env) (w:World) (hh:∀ (k:Nat) (t:Thing),([]:List Thing)[k]?=some t→t.D w (β k)) :
  Calls Tryz.prog 11 ((lpA (.ok f hf) (.ok g hg)).map (SV.den β)).toArray w fun e w'=>∃ xs:List Pl,freshS β w 0 xs∧e=.returned ((tB' true).den (extE β 0 xs))∧newHold w' [] xs∧Below w.heap.size w w':=by
 cases a<;>cases b<;>first | (cases hab; done) | exact spec_auto (evs:=lpTwoBigE hf hg h hs hc hp hr hA hB) (Ns:=lpN) (m:=2000) Tryz.func11 hmA (fun β=>by kernel_rfl) (by kernel_rfl) β w hh
noncomputable def lpTwoBig {A B:Pt} (hs:eqRone f g=false) (hc:cmpQ (fsq f g) one1 = -1) (hp:ValT ptsF f g (ptNil 4)) (hr:OwnT refF f g (bxP A B) rpR2) {a b:Bool} (hA:a=true↔FitP A) (hB:b=true↔FitP B) (hab:(a&&b)=false):Spec Tryz.prog :=
 ⟨11,Tryz.call11,lpA (.ok f hf) (.ok g hg),[],tB' true,[],lpTwoBig_ok hf hg h hs hc hp hr hA hB hab,by kernel_rfl⟩
noncomputable def lpTwo {A B:Pt} (hs:eqRone f g=false) (hc:cmpQ (fsq f g) one1 = -1) (hp:OwnT ptsF f g (pr2 A B) ptR2) (hr:OwnT refF f g (bxP A B) rpR2) (hA:FitP A) (hB:FitP B):Spec Tryz.prog :=
 Spec.auto Tryz.call11 (lpA (.ok f hf) (.ok g hg)) [] (tB' true) [] (lpP hf hg h (pTwo hp).e++[lpL hf hg hs hc,lpL hf hg hs hc,(rTwo hr).e,(sR7Fits A (iff_true_of hA)).e,(sR7Fits B (iff_true_of hB)).e,(sNum13 0).e,eqPtS A,(sR7Int 9 9).e,eqPtS B,(sR7Int 9 9).e,eqPtS A,eqPtS B,sKnown13.e]) lpN 2000 Tryz.func11 hmA (by kernel_rfl) (fun β=>by kernel_rfl)
end
end Go.Proofs.YtpccljaooghafaaGreat.Y
end
