/- MtF, MtG, MvM, MvN, MtK, MtL, MpR, MpS, MtP, MpP, MpL, MpW, MvO. -/
import Derived.Test.YtpccljaooghafaaGreatPk13
set_option linter.unnecessarySimpa false
set_option linter.unusedVariables false
set_option linter.unusedSimpArgs false
section
namespace Go.Proofs.YtpccljaooghafaaGreat.Y
open Go Go.RowKit
set_option maxRecDepth 100000
noncomputable def eRNegP {x:Rat} (i j n:Nat):Ev Tryz.prog:=.refill 293 Tryz.call293 (fun β=>#[.pointer (some ⟨(β i).b,0,none⟩),.pointer (some ⟨(β i).b,0,none⟩)]) [(j,(ratT x).ob)] i j 4 n (ratT (-x))
 (fun β w h hji ho hs=>by
  obtain ⟨a,ha,ka⟩:=needP (x:=x) (k:=j) h (by simp)
  have e:=one_at ho (hji▸ha)
  subst e
  exact fillP ho (rNeg_any hs ka))
noncomputable def eRNegZ {x:Rat} (i j n:Nat):Ev Tryz.prog:=.refill 293 Tryz.call293 (fun β=>#[.pointer ((β j).v 0),.pointer ((β j).v 0)]) [(j,(ratT x).ob)] i j 4 n (ratT (-x))
 (fun β w h hji ho hs=>by
  obtain ⟨a,ha,ka⟩:=needP (x:=x) (k:=j) h (by simp)
  have e:=one_at ho (hji▸ha)
  subst e
  simp only [ha.1]
  exact fillP ho (rNeg_any hs ka))
noncomputable def negN (x:Rat):Ev Tryz.prog:=.dyn (fun o _ _=>isCallB o) fun _ xs ob=>lit ob.length fun n=>match xs.getD 0 undefS with
 | .one (.c (.b (.p i _)))=>lit i fun i=>lit ((findA i ob 0).getD 0) fun j=>eRNegP (x:=x) i j n
 | .one (.c (.b (.z j _)))=>lit j fun j=>lit (alOf ob j) fun i=>eRNegZ (x:=x) i j n
 | _=>.eqv 0 undef undef rfl
def colQ (f:RQ):Nat→Rat
 | 0=>f.a
 | 1=>f.b.re
 | 2=>f.b.im
 | _=>f.c
theorem col_sz {k:Nat} {f:RQ} (h:RSz k f):∀ n,Sz k (colQ f n)
 | 0=>h.a
 | 1=>h.b.1
 | 2=>h.b.2
 | _+3=>h.c
def mt (f g h:RQ) (i a b:Nat):Rat:=colQ f i*(colQ g a*colQ h b-colQ g b*colQ h a)
def mn (z:Rat) (f g h:RQ) (a b c:Nat):Rat:=z+mt f g h a b c+mt f g h b c a+mt f g h c a b
abbrev colT (f:RQ):List Thing:=[ratT (colQ f 0),ratT (colQ f 1),ratT (colQ f 2),ratT (colQ f 3)]
def mnQ (z:Rat) (f g h:RQ):RQ:=⟨mn z f g h 1 2 3,⟨-(mn z f g h 0 2 3),mn z f g h 0 1 3⟩,-(mn z f g h 0 1 2)⟩
abbrev KMT:Nat:=5501
theorem said_spec {P:Program} {fn:Func} {obs:List Thing} {res:SV} {news:List Thing} {idx:List Nat} {β:Env} {w:World} (h2:(res.of fun k=>Nat.blt k (obs.length+news.length))=true) (h3:idx.length=news.length) {e:Ending} {w':World}
  (h:Said P fn obs.length (res.ren (backS obs.length idx)) (idx.zip (news.map Thing.ob)) β w e w'):∃ xs:List Pl,freshS β w obs.length xs∧e=.returned (res.den (extE β obs.length xs))∧newHold w' news xs∧Below w.heap.size w w':=by
 obtain ⟨β',q,obj,e1,rfl,e2,e4,e5,g⟩:=h
 have hz:(idx.zip (news.map Thing.ob)).map (fun p=>β' p.1)=idx.map β':=by
  rw [show (fun p:Nat × Ob=>β' p.1)=β' ∘ Prod.fst from rfl,← List.map_map,List.map_fst_zip (by rw [List.length_map]; omega)]
 refine ⟨idx.map β',fun x hx=>?_,?_,newHold_of h3 e5,g.bel⟩
 · rw [← hz] at hx
   obtain ⟨p,hp,rfl⟩:=List.mem_map.1 hx
   exact e4 p hp
 · rw [SV.den_ren]
   congr 1
   refine SV.den_congr (fun k hk=>?_) _ h2
   rw [Nat.blt_eq] at hk
   unfold backS
   rw [lit_eq]
   by_cases hk2:k<obs.length
   · rw [show Nat.blt k obs.length=true by rw [Nat.blt_eq]; exact hk2,cond_true,extE_out (by omega)]
     exact e1 k hk2
   · rw [show Nat.blt k obs.length=false by rw [Bool.eq_false_iff,ne_eq,Nat.blt_eq]; exact hk2,cond_false]
     have h5:k-obs.length<idx.length:=by omega
     have:=extE_in (β:=β) (n:=obs.length) (xs:=idx.map β') (i:=k-obs.length) (x:=β' idx[k-obs.length]) (by simp [h5])
     rw [show obs.length+(k-obs.length)=k by omega] at this
     rw [this,List.getD_eq_getElem?_getD,List.getElem?_eq_getElem h5,Option.getD_some]
section
variable {f g h:RQ} (hf:RSz KH f) (hg:RSz KH g) (hh:RSz KH h)
include hf hg hh in
theorem mt_sz (i a b:Nat):Sz KMT (mt f g h i a b):=((col_sz hf i).mul (((col_sz hg a).mul (col_sz hh b)).sub ((col_sz hg b).mul (col_sz hh a)))).mono (by decide)
include hf hg hh in
theorem mn_szs (a b c:Nat):Sz (1+KMT+1) (0+mt f g h a b c)∧Sz (1+KMT+1+KMT+1) (0+mt f g h a b c+mt f g h b c a)∧Sz (1+KMT+1+KMT+1+KMT+1) (mn 0 f g h a b c):=by
 have a1:=sz_zero.add (mt_sz hf hg hh a b c)
 have a2:=a1.add (mt_sz hf hg hh b c a)
 exact ⟨a1,a2,a2.add (mt_sz hf hg hh c a b)⟩
include hf hg hh in
theorem mnQ_sz:RSz 17000 (mnQ 0 f g h) :=
 ⟨(mn_szs hf hg hh 1 2 3).2.2.mono (by decide),⟨(mn_szs hf hg hh 0 2 3).2.2.neg.mono (by decide),(mn_szs hf hg hh 0 1 3).2.2.mono (by decide)⟩,(mn_szs hf hg hh 0 1 2).2.2.neg.mono (by decide)⟩
noncomputable def mtE (i a b:Nat):List (Ev Tryz.prog) :=
 [(sMtMul ((col_sz hg a).mono (by decide)) ((col_sz hh b).mono (by decide))).e,(sMtMul ((col_sz hg b).mono (by decide)) ((col_sz hh a).mono (by decide))).e,(sMtSub (((col_sz hg a).mul (col_sz hh b)).mono (by decide)) (((col_sz hg b).mul (col_sz hh a)).mono (by decide))).e,
  (sMtMul ((col_sz hf i).mono (by decide)) ((((col_sz hg a).mul (col_sz hh b)).sub ((col_sz hg b).mul (col_sz hh a))).mono (by decide))).e]
noncomputable def mnE (a b c:Nat):List (Ev Tryz.prog) :=
 have z:=mn_szs hf hg hh a b c
 mtE hf hg hh a b c++[sum0 ((mt_sz hf hg hh a b c).mono (by decide))]++mtE hf hg hh b c a++[sumN (z.1.mono (by decide)) ((mt_sz hf hg hh b c a).mono (by decide))]++mtE hf hg hh c a b++[sumN (z.2.1.mono (by decide)) ((mt_sz hf hg hh c a b).mono (by decide))]
abbrev zz12 (k:Nat):SV:=.one (.a [.b (.z k 0),.b (.z (k+1) 0),.b (.z (k+2) 0),.b (.z (k+3) 0),.b (.z (k+4) 0),.b (.z (k+5) 0),.b (.z (k+6) 0),.b (.z (k+7) 0),.b (.z (k+8) 0),.b (.z (k+9) 0),.b (.z (k+10) 0),.b (.z (k+11) 0)])
noncomputable abbrev mnF:Func:=Tryz.f274
noncomputable abbrev mnN:Nat:=sizeS mnF [zz12 0]
abbrev nil1:Lf:=.b (.v (.pointer none))
abbrev mnI (i:Int):SV:=.one (.c (.b (.v (.int .i64 i))))
abbrev mnSl (c:Int):List (Nat × SV):=[(1,.one (.c (.b (.p 13 0)))),(2,.one (.c (.b (.p 14 0)))),(3,.one (.c (.b (.p 15 0)))),(12,mnI c)]
abbrev mnOb (f g h:RQ) (cs:List Lf) (l:List Rat):List Ob :=
 (colT f++colT g++colT h).map Thing.ob++[.dead,.box [.b (.z 0 0),.b (.z 1 0),.b (.z 2 0),.b (.z 3 0),.b (.z 4 0),.b (.z 5 0),.b (.z 6 0),.b (.z 7 0),.b (.z 8 0),.b (.z 9 0),.b (.z 10 0),.b (.z 11 0)] 295,.box [nil1,nil1,nil1,nil1] FRT,.box cs FRT]++l.map fun x=>(ratT x).ob
noncomputable abbrev mnC (f g h:RQ) (c:Int) (cs:List Lf) (l:List Rat) (ev:List (Ev Tryz.prog)):Cf Tryz.prog:=mkC Tryz.prog mnN 12 (mnSl c) (mnOb f g h cs l) ev
noncomputable abbrev mnRes:SV:=(rgV 12).ren (backS 12 [16,17,18,19])
noncomputable abbrev mnOut (f g h:RQ):List (Nat × Ob):=[16,17,18,19].zip ((rgT (mnQ 0 f g h)).map Thing.ob)
abbrev mnH (β0:Env) (w:World) (f g h:RQ) (C:Cf Tryz.prog):Prop:=HdOk Tryz.prog 12 mnN w.heap.size w β0 (bodyPost Tryz.prog mnF (Said Tryz.prog mnF 12 mnRes (mnOut f g h) β0 w)) C (lpAt mnF 0)
abbrev zc (k:Nat):Lf:=.b (.z k 0)
abbrev mnNs:List (Nat × Nat):=[(18,12),(19,28)]
abbrev eqv73 (b:Bool):Ev Tryz.prog:=.eqv 73 (.bool b) (.bool b) rfl
section
variable (β0:Env) (w:World)
theorem mn_end:mnH β0 w f g h (mnC f g h 4 [zc 16,zc 17,zc 18,zc 19] [mn 0 f g h 1 2 3,-(mn 0 f g h 0 2 3),mn 0 f g h 0 1 3,-(mn 0 f g h 0 1 2)] []):=last_ok (Ns:=mnNs) (m:=200) hmA (fun β=>ok_of_maps (by kernel_rfl))
theorem mn_col3 (k:mnH β0 w f g h (mnC f g h 4 [zc 16,zc 17,zc 18,zc 19] [mn 0 f g h 1 2 3,-(mn 0 f g h 0 2 3),mn 0 f g h 0 1 3,-(mn 0 f g h 0 1 2)] [])) :
  mnH β0 w f g h (mnC f g h 3 [zc 16,zc 17,zc 18,nil1] [mn 0 f g h 1 2 3,-(mn 0 f g h 0 2 3),mn 0 f g h 0 1 3] (mnE hf hg hh 0 1 2++[eqv73 true,negN (mn 0 f g h 0 1 2),.cut])) :=
 piece_ok (Ns:=mnNs) (m:=1000) [] [0,1,2,3,4,5,6,7,8,9,10,11,0,13,14,15,16,17,18,36] hmA (by kernel_rfl) (fun β=>ok_of_maps (by kernel_rfl)) k
theorem mn_col2 (k:mnH β0 w f g h (mnC f g h 3 [zc 16,zc 17,zc 18,nil1] [mn 0 f g h 1 2 3,-(mn 0 f g h 0 2 3),mn 0 f g h 0 1 3] (mnE hf hg hh 0 1 2++[eqv73 true,negN (mn 0 f g h 0 1 2),.cut]))) :
  mnH β0 w f g h (mnC f g h 2 [zc 16,zc 17,nil1,nil1] [mn 0 f g h 1 2 3,-(mn 0 f g h 0 2 3)] (mnE hf hg hh 0 1 3++[eqv73 false,.cut])) :=
 piece_ok (Ns:=mnNs) (m:=1000) _ [0,1,2,3,4,5,6,7,8,9,10,11,0,13,14,15,16,17,34] hmA (by kernel_rfl) (fun β=>ok_of_maps (by kernel_rfl)) k
theorem mn_col1 (k:mnH β0 w f g h (mnC f g h 2 [zc 16,zc 17,nil1,nil1] [mn 0 f g h 1 2 3,-(mn 0 f g h 0 2 3)] (mnE hf hg hh 0 1 3++[eqv73 false,.cut]))) :
  mnH β0 w f g h (mnC f g h 1 [zc 16,nil1,nil1,nil1] [mn 0 f g h 1 2 3] (mnE hf hg hh 0 2 3++[eqv73 true,negN (mn 0 f g h 0 2 3),.cut])) :=
 piece_ok (Ns:=mnNs) (m:=1000) _ [0,1,2,3,4,5,6,7,8,9,10,11,0,13,14,15,16,34] hmA (by kernel_rfl) (fun β=>ok_of_maps (by kernel_rfl)) k
theorem mn_col0 (k:mnH β0 w f g h (mnC f g h 1 [zc 16,nil1,nil1,nil1] [mn 0 f g h 1 2 3] (mnE hf hg hh 0 2 3++[eqv73 true,negN (mn 0 f g h 0 2 3),.cut]))) :
  mnH β0 w f g h (mnC f g h 0 [nil1,nil1,nil1,nil1] [] (mnE hf hg hh 1 2 3++[eqv73 false,.cut])) :=
 piece_ok (Ns:=mnNs) (m:=1000) _ [0,1,2,3,4,5,6,7,8,9,10,11,0,13,14,15,32] hmA (by kernel_rfl) (fun β=>ok_of_maps (by kernel_rfl)) k
end
include hf hg hh in
theorem minors_ok (β:Env) (w:World) (hD:∀ (k:Nat) (t:Thing),(colT f++colT g++colT h)[k]?=some t→t.D w (β k)) :
  Calls Tryz.prog 274 (([zz12 0]:List SV).map (SV.den β)).toArray w fun e w'=>∃ xs:List Pl,freshS β w 12 xs∧e=.returned ((rgV 12).den (extE β 12 xs))∧newHold w' (rgT (mnQ 0 f g h)) xs∧Below w.heap.size w w' :=
 (sx_cut (P:=Tryz.prog) [zz12 0] ((colT f++colT g++colT h).map Thing.ob) [.cut] (mnE hf hg hh 1 2 3++[eqv73 false,.cut]) mnNs 200 mnRes (mnOut f g h) Tryz.func274 hmA (u:=12) (sl:=mnSl 0) (ob:=mnOb f g h [nil1,nil1,nil1,nil1] []) (σ:=[0,1,2,3,4,5,6,7,8,9,10,11,0,12,13,14]) (p':=lpAt mnF 0) (by kernel_rfl) (fun β=>ok_of_maps (by kernel_rfl)) (by kernel_rfl) (by kernel_rfl) β w (fun k o ho=>by
   rw [List.getElem?_map] at ho
   cases hx:(colT f++colT g++colT h)[k]? with
   | none=>rw [hx] at ho; cases ho
   | some t=>rw [hx] at ho; obtain rfl:=Option.some.inj ho; exact hD k t hx)
  (mn_col0 hf hg hh β w (mn_col1 hf hg hh β w (mn_col2 hf hg hh β w (mn_col3 hf hg hh β w (mn_end β w)))))).mono fun e w' h0=>said_spec (obs:=colT f++colT g++colT h) (news:=rgT (mnQ 0 f g h)) (idx:=[16,17,18,19]) (by kernel_rfl) rfl h0
noncomputable def sMinors:Spec Tryz.prog :=
 ⟨274,Tryz.call274,[zz12 0],colT f++colT g++colT h,rgV 12,rgT (mnQ 0 f g h),minors_ok hf hg hh,by kernel_rfl⟩
end
inductive Zk where
 | no0
 | no1
 | no2
 | no3
 | all
def Zk.at (m:RQ):Zk→Prop
 | .no0=>decide (m.a=0)=false
 | .no1=>decide (m.a=0)=true∧decide (m.b.re=0)=false
 | .no2=>decide (m.a=0)=true∧decide (m.b.re=0)=true∧decide (m.b.im=0)=false
 | .no3=>decide (m.a=0)=true∧decide (m.b.re=0)=true∧decide (m.b.im=0)=true∧decide (m.c=0)=false
 | .all=>decide (m.a=0)=true∧decide (m.b.re=0)=true∧decide (m.b.im=0)=true∧decide (m.c=0)=true
def Zk.yes:Zk→Bool
 | .all=>true
 | _=>false
theorem Zk.ex (m:RQ):∃ k:Zk,k.at m:=by
 cases h1:decide (m.a=0) with
 | false=>exact ⟨.no0,h1⟩
 | true=>cases h2:decide (m.b.re=0) with
  | false=>exact ⟨.no1,h1,h2⟩
  | true=>cases h3:decide (m.b.im=0) with
   | false=>exact ⟨.no2,h1,h2,h3⟩
   | true=>cases h4:decide (m.c=0) with
    | false=>exact ⟨.no3,h1,h2,h3,h4⟩
    | true=>exact ⟨.all,h1,h2,h3,h4⟩
noncomputable def sgN (d:Nat) {x:Rat} {b:Bool} (h:decide (x=0)=b):List (Ev Tryz.prog):=[nSign (x:=x) rfl,.eqv d (.bool (!(x.num.sign==0))) (.bool (!b)) (sign_ne h)]
noncomputable def zkE (m:RQ):(k:Zk)→k.at m→List (Ev Tryz.prog)
 | .no0,h=>sgN 11 h
 | .no1,h=>sgN 11 h.1++sgN 11 h.2
 | .no2,h=>sgN 11 h.1++sgN 11 h.2.1++sgN 11 h.2.2
 | .no3,h=>sgN 11 h.1++sgN 11 h.2.1++sgN 11 h.2.2.1++sgN 11 h.2.2.2
 | .all,h=>sgN 11 h.1++sgN 11 h.2.1++sgN 11 h.2.2.1++sgN 11 h.2.2.2
noncomputable def sMZero (m:RQ) (k:Zk) (hk:k.at m):Spec Tryz.prog :=
 ⟨275,Tryz.call275,[rgV 0],rgT m,tB' k.yes,[],fun β w hh=>by
  cases k<;>exact spec_auto (args:=[rgV 0]) (obs:=rgT m) (evs:=zkE m _ hk) (Ns:=[]) (m:=800) Tryz.func275 hmA (fun β=>by kernel_rfl) (by kernel_rfl) β w hh,by cases k<;>kernel_rfl⟩
section
variable {f g h:RQ} (hf:MayC f) (hg:MayC g) (hh:MayC h)
noncomputable def sMBundle {k:Zk} (hk:k.at (mnQ 0 f g h)):Spec Tryz.prog :=
 Spec.auto Tryz.call116 [frS f,frS g,frS h] [] (.tup [.c (.b (.v (.bool k.yes))),nI' 0]) []
  [(sOpen3 hf hg hh).e,dArr3 (fr3 f g h),dForm3 (fr3 f g h),(sMinors hf.szh hg.szh hh.szh).e,(sMZero _ k hk).e] [] 800 Tryz.func116 hmA (by kernel_rfl) (fun β=>by kernel_rfl)
end
abbrev tl3A (f:Nat):List SV:=[fvV f,.one (.c (.b (.s 0 0 3 3)))]
def upQ (f:RQ):RQ:=⟨f.c/Rat.divInt (-2) 1,f.b,f.a/Rat.divInt (-2) 1⟩
theorem MayC.s1024 {f:RQ} (h:MayC f):RSz 1024 f:=⟨h.fit.1.sz,h.fit.2.1.gsz,h.fit.2.2.sz⟩
theorem up_sz {f:RQ} (h:MayC f):RSz KH (upQ f) :=
 ⟨(div_sz h.s1024.c two_sz m2_ne).mono (by decide),h.s1024.b.mono (by decide),(div_sz h.s1024.a two_sz m2_ne).mono (by decide)⟩
abbrev acQ (f g h:RQ):RQ:=mnQ 0 (upQ f) (upQ g) (upQ h)
section
variable {f g h:RQ} (hf:MayC f) (hg:MayC g) (hh:MayC h)
include hf hg hh in
theorem ac_sz:RSz 17000 (acQ f g h):=mnQ_sz (up_sz hf) (up_sz hg) (up_sz hh)
end
abbrev fm12 (f g h:RQ):List Thing:=[ratT f.a,ratT f.b.re,ratT f.b.im,ratT f.c,ratT g.a,ratT g.b.re,ratT g.b.im,ratT g.c,ratT h.a,ratT h.b.re,ratT h.b.im,ratT h.c]
abbrev rw12 (k:Nat):Ob:=.row [.b (.z k 0),.b (.z (k+1) 0),.b (.z (k+2) 0),.b (.z (k+3) 0),.b (.z (k+4) 0),.b (.z (k+5) 0),.b (.z (k+6) 0),.b (.z (k+7) 0),.b (.z (k+8) 0),.b (.z (k+9) 0),.b (.z (k+10) 0),.b (.z (k+11) 0)] FRT 3 4
theorem ptr_row {w:World} {b:Nat} {cur:Array Value} {t:TypeId} {x:Rat} {q:Option Addr} (h:w.heap[b]?=some (.cells cur t (0,0))) (hq:cur[1]?=some (.pointer q)) (k:RatAt w b 0 x):False:=by
 obtain ⟨A,m,cap,_,h1,_⟩:=k.2.1.open_
 have h2:=cell_lay (o:=1) h hq
 rw [Nat.zero_add,h2] at h1
 cases h1
theorem take_at {cur:Array Value} {l:List Value} {n:Nat} {v:Value} (h:cur.toList.take n=l) (hv:l[1]?=some v):cur[1]?=some v:=by
 rw [← h,List.getElem?_take] at hv
 split at hv
 · rwa [Array.getElem?_toList] at hv
 · cases hv
theorem open3o_ok {f g h:RQ} (hf:MayC f) (hg:MayC g) (hk:MayC h) (β:Env) (w:World) (hh:(Ob.box (oc3L f g h) 112).holds β w (β 0)) :
  Calls Tryz.prog 272 (oc3A.map (SV.den β)).toArray w fun e u=>∃ (G:Pl) (xs:List Pl),(w.heap.size≤G.b∧(∀ x∈xs,∀ c,x.F c→w.heap.size≤c)∧∀ x∈xs,¬ x.F G.b)∧e=.returned ((SV.tup [.c (.b (.r 1 3)),nI' 0]).den (extE β 1 (G::xs)))∧(rw12 2).holds (extE β 1 (G::xs)) u G∧newHold u (fm12 f g h) xs∧Below w.heap.size w u:=by
 refine (sx (P:=Tryz.prog) oc3A [.box (oc3L f g h) 112] (oc3E hf hg hk) [] 1200 (.tup [.c (.b (.r 21 3)),nI' 0]) (oc3O f g h) Tryz.func272 hmA (fun β=>ok_of_maps (oc3_eqs hf hg hk β)) (by kernel_rfl) (by kernel_rfl) β w (fun k o ho=>?_)).mono ?_
 · cases k with
   | zero=>simp only [List.getElem?_cons_zero] at ho; obtain rfl:=Option.some.inj ho; exact hh
   | succ k=>simp at ho
 · rintro e u ⟨β',q',obj,e1,rfl,e2,e4,e5,g0⟩
   have hnew:∀ y∈oc3O f g h,∀ c,(β' y.1).F c→c≠(β 0).b→w.heap.size≤c:=fun y hy c hc hne=>by
    rcases e4 y hy c hc with h | ⟨i,hi,h⟩
    · exact h
    · obtain rfl:i=0:=by simp only [List.length_singleton] at hi; omega
      exact absurd ((hh.1.1 c).1 h) hne
   have hu:u.heap[(β 0).b]?=some (.cells ((oc3L f g h).map (Lf.den β)).toArray 112 (0,0)):=by rw [g0.bel.block _ (heap_lt hh.2)]; exact hh.2
   obtain ⟨hone,cur,hcur,hcl,hn,hcm,hsz,htake⟩:=e5 (21,.row [.b (.z 2 0),.b (.z 3 0),.b (.z 4 0),.b (.z 5 0),.b (.z 9 0),.b (.z 10 0),.b (.z 11 0),.b (.z 12 0),.b (.z 16 0),.b (.z 17 0),.b (.z 18 0),.b (.z 19 0)] FRT 3 4) (by simp [oc3O])
   have hbR:w.heap.size≤(β' 21).b:=hnew _ (by simp [oc3O]) _ ((hone.1 _).2 rfl) fun e=>by
    rw [e,hu] at hcur
    have:=(Obj.cells.inj (Option.some.inj hcur)).2.1
    exact absurd this (by decide)
   have hrat:∀ (k:Nat) (x:Rat),(k,(ratT x).ob)∈oc3O f g h→PR x u (β' k)∧(∀ c,(β' k).F c→w.heap.size≤c)∧¬ (β' k).F (β' 21).b:=fun k x hk=>by
    have h:PR x u (β' k):=e5 _ hk
    refine ⟨h,fun c hc=>?_,fun hc=>?_⟩
    · obtain ⟨b,hb,hx⟩:=h
      have ec:=(hb.2 c).1 hc
      subst ec
      refine hnew _ hk c hc fun e=>?_
      rw [e] at hx
      exact str_no_rat hu hx
    · obtain ⟨b,hb,hx⟩:=h
      have ec:=(hb.2 _).1 hc
      rw [← ec] at hx
      exact ptr_row hcur (take_at htake rfl) hx
   obtain ⟨o2,n2,m2⟩:=hrat 2 f.a (by simp [oc3O])
   obtain ⟨o3,n3,m3⟩:=hrat 3 f.b.re (by simp [oc3O])
   obtain ⟨o4,n4,m4⟩:=hrat 4 f.b.im (by simp [oc3O])
   obtain ⟨o5,n5,m5⟩:=hrat 5 f.c (by simp [oc3O])
   obtain ⟨o9,n9,m9⟩:=hrat 9 g.a (by simp [oc3O])
   obtain ⟨o10,n10,m10⟩:=hrat 10 g.b.re (by simp [oc3O])
   obtain ⟨o11,n11,m11⟩:=hrat 11 g.b.im (by simp [oc3O])
   obtain ⟨o12,n12,m12⟩:=hrat 12 g.c (by simp [oc3O])
   obtain ⟨o16,n16,m16⟩:=hrat 16 h.a (by simp [oc3O])
   obtain ⟨o17,n17,m17⟩:=hrat 17 h.b.re (by simp [oc3O])
   obtain ⟨o18,n18,m18⟩:=hrat 18 h.b.im (by simp [oc3O])
   obtain ⟨o19,n19,m19⟩:=hrat 19 h.c (by simp [oc3O])
   refine ⟨β' 21,[β' 2,β' 3,β' 4,β' 5,β' 9,β' 10,β' 11,β' 12,β' 16,β' 17,β' 18,β' 19],⟨hbR,fun x hx=>?_,fun x hx=>?_⟩,rfl,⟨hone,cur,hcur,rfl,hn,hcm,hsz,htake.trans rfl⟩,⟨o2,o3,o4,o5,o9,o10,o11,o12,o16,o17,o18,o19,trivial⟩,g0.bel⟩
   · simp only [List.mem_cons,List.not_mem_nil,or_false] at hx
     rcases hx with rfl | rfl | rfl | rfl | rfl | rfl | rfl | rfl | rfl | rfl | rfl | rfl
     · exact n2
     · exact n3
     · exact n4
     · exact n5
     · exact n9
     · exact n10
     · exact n11
     · exact n12
     · exact n16
     · exact n17
     · exact n18
     · exact n19
   · simp only [List.mem_cons,List.not_mem_nil,or_false] at hx
     rcases hx with rfl | rfl | rfl | rfl | rfl | rfl | rfl | rfl | rfl | rfl | rfl | rfl
     · exact m2
     · exact m3
     · exact m4
     · exact m5
     · exact m9
     · exact m10
     · exact m11
     · exact m12
     · exact m16
     · exact m17
     · exact m18
     · exact m19
noncomputable def sOpen3O {f g h:RQ} (hf:MayC f) (hg:MayC g) (hk:MayC h):CRow Tryz.prog :=
 ⟨272,Tryz.call272,oc3A,oc3L f g h,112,rw12 2,.tup [.c (.b (.r 1 3)),nI' 0],fm12 f g h,open3o_ok hf hg hk,by kernel_rfl⟩
def acO (f g h:RQ):List (Nat × Ob):=[(12,.row [.b (.z 16 0),.b (.z 1 0),.b (.z 2 0),.b (.z 18 0),.b (.z 21 0),.b (.z 5 0),.b (.z 6 0),.b (.z 23 0),.b (.z 26 0),.b (.z 9 0),.b (.z 10 0),.b (.z 28 0)] FRT 3 4),(16,(ratT (f.c/Rat.divInt (-2) 1)).ob),(18,(ratT (f.a/Rat.divInt (-2) 1)).ob),(21,(ratT (g.c/Rat.divInt (-2) 1)).ob),(23,(ratT (g.a/Rat.divInt (-2) 1)).ob),(26,(ratT (h.c/Rat.divInt (-2) 1)).ob),(28,(ratT (h.a/Rat.divInt (-2) 1)).ob),(29,(ratT (acQ f g h).a).ob),(30,(ratT (acQ f g h).b.re).ob),(31,(ratT (acQ f g h).b.im).ob),(32,(ratT (acQ f g h).c).ob)]
abbrev acB (f g h:RQ):List Ob:=(fm12 f g h).map Thing.ob++[rw12 0]
section
variable {f g h:RQ} (hf:MayC f) (hg:MayC g) (hk:MayC h)
noncomputable def acqE {f:RQ} (hf:MayC f):List (Ev Tryz.prog):=[(sMtNum (-2)).e,(sMtQuo (hf.s1024.c.mono (by decide)) (two_sz.mono (by decide)) m2_ne).e,(sMtNum (-2)).e,(sMtQuo (hf.s1024.a.mono (by decide)) (two_sz.mono (by decide)) m2_ne).e]
noncomputable def acE:List (Ev Tryz.prog):=acqE hf++acqE hg++acqE hk++[(sMinors (up_sz hf) (up_sz hg) (up_sz hk)).e]
theorem ac_eqs (β:Env):(allM Tryz.prog 12 Tryz.f273 [.one (.c (.b (.r 12 3)))] (acB f g h) (acE hf hg hk) [(4,16)] 2000 (.tup [rgC 29,.c (.b (.v (.bool true)))]) (acO f g h) β).map Prod.fst=(allM Tryz.prog 12 Tryz.f273 [.one (.c (.b (.r 12 3)))] (acB f g h) (acE hf hg hk) [(4,16)] 2000 (.tup [rgC 29,.c (.b (.v (.bool true)))]) (acO f g h) β).map Prod.snd:=by kernel_rfl
abbrev acN (f g h:RQ):List Thing:=[ratT (f.c/Rat.divInt (-2) 1),ratT (f.a/Rat.divInt (-2) 1),ratT (g.c/Rat.divInt (-2) 1),ratT (g.a/Rat.divInt (-2) 1),ratT (h.c/Rat.divInt (-2) 1),ratT (h.a/Rat.divInt (-2) 1),ratT (acQ f g h).a,ratT (acQ f g h).b.re,ratT (acQ f g h).b.im,ratT (acQ f g h).c]
abbrev acb:Ob:=.row [.b (.z 13 0),.b (.z 1 0),.b (.z 2 0),.b (.z 14 0),.b (.z 15 0),.b (.z 5 0),.b (.z 6 0),.b (.z 16 0),.b (.z 17 0),.b (.z 9 0),.b (.z 10 0),.b (.z 18 0)] FRT 3 4
include hf hg hk in
theorem ac_ok (β:Env) (w:World) (hh:∀ (k:Nat) (t:Thing),(fm12 f g h)[k]?=some t→t.D w (β k)) (ha:(rw12 0).holds β w (β 12)) :
  Calls Tryz.prog 273 (([.one (.c (.b (.r 12 3)))]:List SV).map (SV.den β)).toArray w fun e u=>∃ xs:List Pl,freshS β w 12 xs∧e=.returned ((SV.tup [rgC 19,.c (.b (.v (.bool true)))]).den (extE β 13 xs))∧newHold u (acN f g h) xs∧acb.holds (extE β 13 xs) u (β 12)∧TouchL w u [(β 12).b]:=by
 have hobs:∀ (k:Nat) (o:Ob),(acB f g h)[k]?=some o→o.holds β w (β k):=fun k o ho=>by
  match k,ho with
  | 0,ho=>obtain rfl:=Option.some.inj ho; exact hh 0 _ rfl
  | 1,ho=>obtain rfl:=Option.some.inj ho; exact hh 1 _ rfl
  | 2,ho=>obtain rfl:=Option.some.inj ho; exact hh 2 _ rfl
  | 3,ho=>obtain rfl:=Option.some.inj ho; exact hh 3 _ rfl
  | 4,ho=>obtain rfl:=Option.some.inj ho; exact hh 4 _ rfl
  | 5,ho=>obtain rfl:=Option.some.inj ho; exact hh 5 _ rfl
  | 6,ho=>obtain rfl:=Option.some.inj ho; exact hh 6 _ rfl
  | 7,ho=>obtain rfl:=Option.some.inj ho; exact hh 7 _ rfl
  | 8,ho=>obtain rfl:=Option.some.inj ho; exact hh 8 _ rfl
  | 9,ho=>obtain rfl:=Option.some.inj ho; exact hh 9 _ rfl
  | 10,ho=>obtain rfl:=Option.some.inj ho; exact hh 10 _ rfl
  | 11,ho=>obtain rfl:=Option.some.inj ho; exact hh 11 _ rfl
  | 12,ho=>obtain rfl:=Option.some.inj ho; exact ha
  | k+13,ho=>cases ho
 obtain ⟨hone,cur,hcur,hcl,hn,hcm,hsz,htake⟩:=ha
 have hno:∀ j,j<12→¬ (β j).F (β 12).b:=fun j hj hF=>by
  obtain ⟨t,ht,x,rfl⟩:∃ t,(fm12 f g h)[j]?=some t∧∃ x,t=ratT x:=by
   match j,hj with
   | 0,_=>exact ⟨_,rfl,_,rfl⟩
   | 1,_=>exact ⟨_,rfl,_,rfl⟩
   | 2,_=>exact ⟨_,rfl,_,rfl⟩
   | 3,_=>exact ⟨_,rfl,_,rfl⟩
   | 4,_=>exact ⟨_,rfl,_,rfl⟩
   | 5,_=>exact ⟨_,rfl,_,rfl⟩
   | 6,_=>exact ⟨_,rfl,_,rfl⟩
   | 7,_=>exact ⟨_,rfl,_,rfl⟩
   | 8,_=>exact ⟨_,rfl,_,rfl⟩
   | 9,_=>exact ⟨_,rfl,_,rfl⟩
   | 10,_=>exact ⟨_,rfl,_,rfl⟩
   | 11,_=>exact ⟨_,rfl,_,rfl⟩
   | j+12,hj=>omega
  obtain ⟨b,hb,hx⟩:PR x w (β j):=hh j _ ht
  have ec:=(hb.2 _).1 hF
  rw [← ec] at hx
  exact ptr_row hcur (take_at htake rfl) hx
 refine (sxM (P:=Tryz.prog) 12 [.one (.c (.b (.r 12 3)))] (acB f g h) (acE hf hg hk) [(4,16)] 2000 (.tup [rgC 29,.c (.b (.v (.bool true)))]) (acO f g h) Tryz.func273 hmA (fun β=>ok_of_maps (ac_eqs hf hg hk β)) (by show 12≤13; decide) (by kernel_rfl) (by kernel_rfl) (fun k k1 k2=>?_) (fun k k1 k2=>?_) β w hobs (fun k j k1 k2 k3 k4=>?_)).mono ?_
 · obtain rfl:k=12:=by have:(acB f g h).length=13:=rfl; omega
   rfl
 · obtain rfl:k=12:=by have:(acB f g h).length=13:=rfl; omega
   exact ⟨_,_,List.mem_cons_self ..,rfl⟩
 · have hl:(acB f g h).length=13:=rfl
   obtain rfl:k=12:=by omega
   exact hno j (by omega)
 · rintro e u ⟨β',q,e1,rfl,e3,e4,e5,e6⟩
   have h12:β' 12=β 12:=e1 12 (by show 12<13; decide)
   obtain ⟨ho1,cur',hcur',k3,k4,k5,k6,k7⟩:=e5 _ (List.mem_cons_self ..)
   rw [h12] at ho1 hcur' k4 k5 k6
   have hfr:∀ p∈acO f g h,p.2.isTh=true→∀ c,(β' p.1).F c→w.heap.size≤c∨∃ i,i<12∧(β i).F c:=fun p hp hth c hc=>(e4 p hp hth c hc).imp And.left id
   have hth:∀ (k:Nat) (x:Rat),(k,(ratT x).ob)∈acO f g h→(ratT x).D u (β' k):=fun k x hk=>e5 _ hk
   have b0:β' 0=β 0:=e1 0 (by show 0<13; decide)
   have b1:β' 1=β 1:=e1 1 (by show 1<13; decide)
   have b2:β' 2=β 2:=e1 2 (by show 2<13; decide)
   have b3:β' 3=β 3:=e1 3 (by show 3<13; decide)
   have b4:β' 4=β 4:=e1 4 (by show 4<13; decide)
   have b5:β' 5=β 5:=e1 5 (by show 5<13; decide)
   have b6:β' 6=β 6:=e1 6 (by show 6<13; decide)
   have b7:β' 7=β 7:=e1 7 (by show 7<13; decide)
   have b8:β' 8=β 8:=e1 8 (by show 8<13; decide)
   have b9:β' 9=β 9:=e1 9 (by show 9<13; decide)
   have b10:β' 10=β 10:=e1 10 (by show 10<13; decide)
   have b11:β' 11=β 11:=e1 11 (by show 11<13; decide)
   refine ⟨[β' 16,β' 18,β' 21,β' 23,β' 26,β' 28,β' 29,β' 30,β' 31,β' 32],fun x hx=>?_,rfl,⟨hth 16 _ (by simp [acO]),hth 18 _ (by simp [acO]),hth 21 _ (by simp [acO]),hth 23 _ (by simp [acO]),hth 26 _ (by simp [acO]),hth 28 _ (by simp [acO]),hth 29 _ (by simp [acO]),hth 30 _ (by simp [acO]),hth 31 _ (by simp [acO]),hth 32 _ (by simp [acO]),trivial⟩,⟨ho1,cur',hcur',rfl,k4,k5,k6,k7.trans ?_⟩,⟨e6.os,e6.tape,e6.output,e6.size,fun k hkk hne=>e6.block k hkk fun hS=>?_⟩⟩
   · simp only [List.mem_cons,List.not_mem_nil,or_false] at hx
     rcases hx with rfl | rfl | rfl | rfl | rfl | rfl | rfl | rfl | rfl | rfl
     · exact hfr (16,(ratT (f.c/Rat.divInt (-2) 1)).ob) (by simp [acO]) rfl
     · exact hfr (18,(ratT (f.a/Rat.divInt (-2) 1)).ob) (by simp [acO]) rfl
     · exact hfr (21,(ratT (g.c/Rat.divInt (-2) 1)).ob) (by simp [acO]) rfl
     · exact hfr (23,(ratT (g.a/Rat.divInt (-2) 1)).ob) (by simp [acO]) rfl
     · exact hfr (26,(ratT (h.c/Rat.divInt (-2) 1)).ob) (by simp [acO]) rfl
     · exact hfr (28,(ratT (h.a/Rat.divInt (-2) 1)).ob) (by simp [acO]) rfl
     · exact hfr (29,(ratT ((acQ f g h).a)).ob) (by simp [acO]) rfl
     · exact hfr (30,(ratT ((acQ f g h).b.re)).ob) (by simp [acO]) rfl
     · exact hfr (31,(ratT ((acQ f g h).b.im)).ob) (by simp [acO]) rfl
     · exact hfr (32,(ratT ((acQ f g h).c)).ob) (by simp [acO]) rfl
   · show _=_
     simp only [List.map_cons,List.map_nil,Lf.den,Lf0.den,b0,b1,b2,b3,b4,b5,b6,b7,b8,b9,b10,b11]
     rfl
   · obtain ⟨i,i1,i2,rfl⟩:=hS
     have hl:(acB f g h).length=13:=rfl
     obtain rfl:i=12:=by omega
     exact hne (List.mem_singleton.2 rfl)
noncomputable def sAcr1:MSpec Tryz.prog :=
 ⟨273,Tryz.call273,[.one (.c (.b (.r 12 3)))],fm12 f g h,rw12 0,acb,.tup [rgC 19,.c (.b (.v (.bool true)))],acN f g h,ac_ok hf hg hk,by kernel_rfl⟩
def isTp:SV→Bool
 | .tup _=>true
 | _=>false
def mvTp (d t:Nat) (x:SV):Ev Tryz.prog:=.rd d (.move (.tmp t)) (fun β=>[x.den β]) [] 0 x [] (fun β w _ ρ op ho hx=>by
 refine ⟨[],w,(fun _ h=>by cases h),?_,trivial,Below.refl _ _⟩
 have h1:ρ (.tmp t)=x.den β:=by simpa [Op.operands] using hx
 rw [extE_nil,← h1]
 unfold execOp
 rw [ho]
 rfl)
def dMvT:Ev Tryz.prog:=.dyn (fun o xs _=>match o.op with
 | .move (.tmp _)=>isTp (xs.getD 0 undefS)
 | _=>false) fun o xs _=>match o.op with
 | .move (.tmp t)=>mvTp (o.dst.getD 0) t (xs.getD 0 undefS)
 | _=>.eqv 0 undef undef rfl
noncomputable def sMadeAc:CSpec Tryz.prog :=
 ⟨265,Tryz.call265,tl3A 273,oc3L f g h,CIT,mxA (acQ f g h),[],fun β w hh =>
  cspec0 [(sOpen3O hf hg hk).e,dMvT,(sAcr1 hf hg hk).e,(sMtCircle ((ac_sz hf hg hk).mono (by decide))).e] [] 800 Tryz.func265 hmA (fun β=>by kernel_rfl) (by kernel_rfl) (by kernel_rfl) β w hh,by kernel_rfl⟩
noncomputable def sMAcross:Spec Tryz.prog :=
 Spec.auto Tryz.call115 [frS f,frS g,frS h] [] (mxA (acQ f g h)) [] [(sMadeAc hf hg hk).e] [] 400 Tryz.func115 hmA (by kernel_rfl) (fun β=>by kernel_rfl)
end
theorem mvExt {r s:RQ} (h1:r.a=s.a) (h2:r.b.re=s.b.re) (h3:r.b.im=s.b.im) (h4:r.c=s.c):r=s:=by
 obtain ⟨a,⟨b,b'⟩,c⟩:=r
 obtain ⟨d,⟨e,e'⟩,f⟩:=s
 simp only at h1 h2 h3 h4
 subst h1 h2 h3 h4
 rfl
theorem m2v:(Rat.divInt (-2) 1:Rat) = -2:=of_decide_eq_true (by kernel_rfl:decide ((Rat.divInt (-2) 1:Rat) = -2)=true)
theorem mvMul0 {x y:Rat} (hy:y≠0):decide (x*y⁻¹=0)=decide (x=0):=by
 refine decide_eq_decide.2 ⟨fun h=>?_,fun h=>by rw [h,Rat.zero_mul]⟩
 rcases Rat.mul_eq_zero.1 h with h | h
 · exact h
 · exact absurd h (inv_ne hy)
theorem rnm_rnm (r:RQ) (y z:Rat):rnm (rnm r y) z=rnm r (y*z):=by
 unfold rnm gscale
 refine mvExt ?_ ?_ ?_ ?_<;>dsimp only<;>(rw [Rat.inv_mul_rev]; grind)
theorem rby_rnm {r:RQ} {y:Rat} (hy:y≠0):rby (rnm r y)=rby r*y⁻¹:=by
 unfold rby
 rw [show (rnm r y).a=r.a*y⁻¹ from rfl,show (rnm r y).b.re=r.b.re*y⁻¹ from rfl,mvMul0 hy,mvMul0 hy]
 unfold rbyQ
 cases decide (r.a=0)<;>cases decide (r.b.re=0)<;>rfl
theorem rone_rnm {r:RQ} {y:Rat} (hy:y≠0):rone (rnm r y)=rone r:=by
 unfold rone
 rw [rby_rnm hy,rnm_rnm]
 congr 1
 have:=Rat.mul_inv_cancel y hy
 grind
theorem fpr_rnm (f g:RQ) (y:Rat):fpr f (rnm g y)=fpr f g*y⁻¹:=by
 unfold fpr rnm gscale
 rw [Rat.div_def,Rat.div_def]
 grind
theorem fpr_comm (f g:RQ):fpr f g=fpr g f:=by
 unfold fpr
 rw [Rat.div_def,Rat.div_def]
 grind
theorem fpr_pls (f g h:RQ) (s t:Rat):fpr f (pls g h s t)=s*fpr f g+t*fpr f h:=by
 unfold fpr pls
 rw [Rat.div_def,Rat.div_def,Rat.div_def]
 grind
theorem ovb_mul {f g:RQ} (h0:fpr f f≠0):ovb f g*fpr f f = -2*fpr f g:=by
 unfold ovb
 rw [Rat.div_mul_cancel h0,m2v]
theorem ovQ_1 (f g:RQ):ovQ f g=pls g f 1 (ovb f g):=by unfold ovQ; rw [show one1=1 from div11v]
theorem ovb_rnm (f g:RQ) (y:Rat):ovb f (rnm g y)=ovb f g*y⁻¹:=by
 unfold ovb
 rw [fpr_rnm,Rat.div_def,Rat.div_def]
 grind
theorem ov_rnm (f g:RQ) (y:Rat):ovQ f (rnm g y)=rnm (ovQ f g) y:=by
 rw [ovQ_1,ovQ_1,ovb_rnm]
 generalize ovb f g=b
 unfold pls rnm gscale
 refine mvExt ?_ ?_ ?_ ?_<;>dsimp only<;>grind
theorem ov_neg {f g:RQ} (h0:fpr f f≠0):ovb f (ovQ f g) = -ovb f g:=by
 refine eq_of_mul h0 ?_
 rw [ovb_mul h0,ovQ_1,fpr_pls]
 have:=ovb_mul (g:=g) h0
 grind
theorem ov_ov {f g:RQ} (h0:fpr f f≠0):ovQ f (ovQ f g)=g:=by
 rw [ovQ_1,ov_neg h0,ovQ_1]
 generalize ovb f g=b
 unfold pls
 refine mvExt ?_ ?_ ?_ ?_<;>dsimp only<;>grind
theorem ov_twice {f g:RQ} (hf:MayC f) (hg:MayC g) (h0:rby (ovQ f g)≠0):rone (ovQ f (rone (ovQ f g)))=g:=by
 unfold rone
 rw [show rnm (ovQ f g) (rby (ovQ f g))=rnm (ovQ f g) (rby (ovQ f g)) from rfl,ov_rnm,ov_ov hf.ff]
 have:=rone_rnm (r:=g) h0
 unfold rone at this
 rw [this]
 exact hg.one
theorem rnm_m1 (f:RQ):rnm f (-1)=⟨-f.a,⟨-f.b.re,-f.b.im⟩,-f.c⟩:=by
 have h1:(-1:Rat)⁻¹ = -1:=of_decide_eq_true (by kernel_rfl:decide ((-1:Rat)⁻¹ = -1)=true)
 unfold rnm gscale
 rw [h1]
 refine mvExt ?_ ?_ ?_ ?_<;>dsimp only<;>grind
theorem ov_self {f:RQ} (hf:MayC f):rone (ovQ f f)=f:=by
 have hb:ovb f f = -2:=eq_of_mul hf.ff (by rw [ovb_mul hf.ff])
 have e:ovQ f f=rnm f (-1):=by
  rw [ovQ_1,hb,rnm_m1]
  unfold pls
  refine mvExt ?_ ?_ ?_ ?_<;>dsimp only<;>grind
 rw [e,rone_rnm (by decide),hf.one]
theorem ov_up {f g:RQ} (hg:MayC g) (h:fpr f g=0):rone (ovQ f g)=g:=by
 have hb:ovb f g=0:=by
  unfold ovb
  rw [h,Rat.mul_zero,Rat.div_def,Rat.zero_mul]
 have e:ovQ f g=g:=by
  rw [ovQ_1,hb]
  unfold pls
  refine mvExt ?_ ?_ ?_ ?_<;>dsimp only<;>grind
 rw [e,hg.one]
theorem ov_stay {f g:RQ} (hf:MayC f) (hg:MayC g) (h0:rby (ovQ f g)≠0) (h:rone (ovQ f g)=g):fpr f g=0∨f=g:=by
 by_cases hp:fpr f g=0
 · exact .inl hp
 · refine .inr ?_
   have hff:=hf.ff
   have hb:=ovb_mul (g:=g) hff
   obtain ⟨y,h0',e2⟩:∃ y:Rat,y≠0∧rnm (pls g f 1 (ovb f g)) y=g:=⟨rby (ovQ f g),h0,by rw [← ovQ_1]; exact h⟩
   clear h h0
   generalize hbb:ovb f g=b at *
   have hb0:b≠0:=by
    intro e
    rw [e,Rat.zero_mul] at hb
    exact hp (by grind)
   have hyi:=Rat.mul_inv_cancel y h0'
   have k1:g.a+b*f.a=y*g.a:=by
    have:=congrArg RQ.a e2
    have h1:(1*g.a+b*f.a)*y⁻¹=g.a:=this
    generalize y⁻¹=i at *
    grind
   have k2:g.b.re+b*f.b.re=y*g.b.re:=by
    have:=congrArg (fun r:RQ=>r.b.re) e2
    have h1:(1*g.b.re+b*f.b.re)*y⁻¹=g.b.re:=this
    generalize y⁻¹=i at *
    grind
   have k3:g.b.im+b*f.b.im=y*g.b.im:=by
    have:=congrArg (fun r:RQ=>r.b.im) e2
    have h1:(1*g.b.im+b*f.b.im)*y⁻¹=g.b.im:=this
    generalize y⁻¹=i at *
    grind
   have k4:g.c+b*f.c=y*g.c:=by
    have:=congrArg RQ.c e2
    have h1:(1*g.c+b*f.c)*y⁻¹=g.c:=this
    generalize y⁻¹=i at *
    grind
   by_cases hy1:y=1
   · exfalso
     have z1:b*f.a=0:=by rw [hy1] at k1; grind
     have z2:b*f.b.re=0:=by rw [hy1] at k2; grind
     have z3:b*f.b.im=0:=by rw [hy1] at k3; grind
     have z4:b*f.c=0:=by rw [hy1] at k4; grind
     have q:∀ x:Rat,b*x=0→x=0:=fun x h=>(Rat.mul_eq_zero.1 h).elim (fun h=>absurd h hb0) id
     refine hff ?_
     unfold fpr
     rw [q _ z1,q _ z2,q _ z3,q _ z4,Rat.div_def]
     grind
   · have hd:y-1≠0:=by intro e; exact hy1 (by grind)
     have hz:b*(y-1)⁻¹≠0:=by
      intro e
      rcases Rat.mul_eq_zero.1 e with e | e
      · exact hb0 e
      · exact inv_ne hd e
     have hfg:g=rnm f ((b*(y-1)⁻¹)⁻¹):=by
      have hi:=Rat.mul_inv_cancel _ hd
      unfold rnm gscale
      rw [Rat.inv_inv]
      generalize (y-1)⁻¹=j at *
      refine mvExt ?_ ?_ ?_ ?_<;>dsimp only<;>grind
     have:=hg.one
     rw [hfg,rone_rnm (inv_ne hz),hf.one] at this
     rw [hfg]
     exact this
theorem col_0 (f:RQ):colQ f 0=f.a:=rfl
theorem col_1 (f:RQ):colQ f 1=f.b.re:=rfl
theorem col_2 (f:RQ):colQ f 2=f.b.im:=rfl
theorem col_3 (f:RQ):colQ f 3=f.c:=rfl
abbrev mh:Rat:=(-2:Rat)⁻¹
theorem up_a (f:RQ):(upQ f).a=f.c*mh∧(upQ f).b=f.b∧(upQ f).c=f.a*mh:=by
 unfold upQ
 rw [m2v,Rat.div_def,Rat.div_def]
 exact ⟨rfl,rfl,rfl⟩
theorem mh2:mh*2 = -1:=of_decide_eq_true (by kernel_rfl:decide (mh*2 = -1)=true)
theorem fpr_half (f g:RQ):fpr f g=f.b.re*g.b.re+f.b.im*g.b.im+(f.a*g.c+f.c*g.a)*mh:=by
 have h:=fpr_two f g
 have:=mh2
 grind
theorem ac_up1 (f g h:RQ):fpr (acQ f g h) f=0:=by
 obtain ⟨a1,b1,c1⟩:=up_a f
 obtain ⟨a2,b2,c2⟩:=up_a g
 obtain ⟨a3,b3,c3⟩:=up_a h
 rw [fpr_half]
 unfold acQ mnQ mn mt
 simp only [col_0,col_1,col_2,col_3,a1,b1,c1,a2,b2,c2,a3,b3,c3]
 generalize mh=m
 grind
theorem ac_up2 (f g h:RQ):fpr (acQ f g h) g=0:=by
 obtain ⟨a1,b1,c1⟩:=up_a f
 obtain ⟨a2,b2,c2⟩:=up_a g
 obtain ⟨a3,b3,c3⟩:=up_a h
 rw [fpr_half]
 unfold acQ mnQ mn mt
 simp only [col_0,col_1,col_2,col_3,a1,b1,c1,a2,b2,c2,a3,b3,c3]
 generalize mh=m
 grind
theorem ac_up3 (f g h:RQ):fpr (acQ f g h) h=0:=by
 obtain ⟨a1,b1,c1⟩:=up_a f
 obtain ⟨a2,b2,c2⟩:=up_a g
 obtain ⟨a3,b3,c3⟩:=up_a h
 rw [fpr_half]
 unfold acQ mnQ mn mt
 simp only [col_0,col_1,col_2,col_3,a1,b1,c1,a2,b2,c2,a3,b3,c3]
 generalize mh=m
 grind
theorem rnm_up {x f:RQ} (y:Rat) (h:fpr x f=0):fpr (rnm x y) f=0:=by
 rw [fpr_comm,fpr_rnm,fpr_comm,h,Rat.zero_mul]
theorem mix_up {x f g:RQ} (s t y:Rat) (h1:fpr x f=0) (h2:fpr x g=0):fpr x (rnm (pls f g s t) y)=0:=by
 rw [fpr_rnm,fpr_pls,h1,h2]
 grind
theorem mix_bun (f g:RQ) (s t y:Rat):mnQ 0 f (rnm (pls f g s t) y) g=⟨0,⟨0,0⟩,0⟩:=by
 refine mvExt ?_ ?_ ?_ ?_<;>(unfold mnQ mn mt; simp only [col_0,col_1,col_2,col_3,rnm,pls,gscale]; generalize y⁻¹=i; grind)
theorem zk_all {m:RQ} (h:m=⟨0,⟨0,0⟩,0⟩):Zk.all.at m:=by
 subst h
 exact ⟨by decide,by decide,by decide,by decide⟩
theorem zk_no {m:RQ} {k:Zk} (hk:k.at m) (h:k.yes=true):m=⟨0,⟨0,0⟩,0⟩:=by
 cases k with
 | all=>exact mvExt (of_decide_eq_true hk.1) (of_decide_eq_true hk.2.1) (of_decide_eq_true hk.2.2.1) (of_decide_eq_true hk.2.2.2)
 | _=>cases h
theorem bun_ac {f g h:RQ} (e:mnQ 0 f g h=⟨0,⟨0,0⟩,0⟩):wtB (acQ f g h)=true:=by
 have e0:mn 0 f g h 1 2 3=0:=congrArg RQ.a e
 have e1 : -(mn 0 f g h 0 2 3)=0:=congrArg (fun r:RQ=>r.b.re) e
 have e2:mn 0 f g h 0 1 3=0:=congrArg (fun r:RQ=>r.b.im) e
 have e3 : -(mn 0 f g h 0 1 2)=0:=congrArg RQ.c e
 unfold mn mt at e0 e1 e2 e3
 simp only [col_0,col_1,col_2,col_3] at e0 e1 e2 e3
 have hz:acQ f g h=⟨0,⟨0,0⟩,0⟩:=by
  obtain ⟨a1,b1,c1⟩:=up_a f
  obtain ⟨a2,b2,c2⟩:=up_a g
  obtain ⟨a3,b3,c3⟩:=up_a h
  refine mvExt ?_ ?_ ?_ ?_<;>(unfold acQ mnQ mn mt; simp only [col_0,col_1,col_2,col_3,a1,b1,c1,a2,b2,c2,a3,b3,c3]; generalize mh=m; grind)
 rw [hz]
 unfold wtB
 have:rpow ⟨0,⟨0,0⟩,0⟩=0:=by unfold rpow gnorm; grind
 rw [this]
 decide
theorem val_pls (f g:RQ) (s t:Rat) (z:GQ):valQ (pls f g s t) z=s*valQ f z+t*valQ g z:=by
 unfold valQ pls gnorm gmul
 grind
theorem val_rnm (f:RQ) (y:Rat) (z:GQ):valQ (rnm f y) z=valQ f z*y⁻¹:=by
 unfold valQ rnm gscale gnorm gmul
 grind
theorem mix_on {f g:RQ} {p:Pt} (s t y:Rat) (h1:sidQ f p=0) (h2:sidQ g p=0):sidQ (rnm (pls f g s t) y) p=0:=by
 cases p with
 | inf =>
  have k1:f.a=0:=h1
  have k2:g.a=0:=h2
  show (s*f.a+t*g.a)*y⁻¹=0
  rw [k1,k2]
  grind
 | fin z =>
  have k1:valQ f z=0:=h1
  have k2:valQ g z=0:=h2
  show valQ (rnm (pls f g s t) y) z=0
  rw [val_rnm,val_pls,k1,k2]
  grind
theorem sgn_0 {x:Rat} (h:x=0):(!(x.num.sign==0))=false:=by rw [h]; rfl
theorem val_eq (f:RQ) (z:GQ):valQ f z=f.a*(z.re*z.re+z.im*z.im)+2*(f.b.re*z.re-f.b.im*z.im)+f.c:=by
 unfold valQ gnorm gmul
 grind
theorem lnV_mul {f g:RQ} (h0:lnD f g≠0) (x y:Rat):lnV f g x y*(lnD f g*2)=y*f.c-x*g.c:=by
 have h:lnD f g*i21≠0:=mul_ne h0 i21_ne
 unfold lnV
 rw [← i21v,Rat.div_mul_cancel h]
theorem ln_on {f g:RQ} (ha:f.a=0) (hb:g.a=0) (h0:lnD f g≠0):(sidQ f (.fin (lnZ f g))=0∧sidQ g (.fin (lnZ f g))=0)∧sidQ f .inf=0∧sidQ g .inf=0:=by
 have e1:=lnV_mul h0 f.b.im g.b.im
 have e2:=lnV_mul h0 f.b.re g.b.re
 have hz:(lnZ f g).re=lnV f g f.b.im g.b.im∧(lnZ f g).im=lnV f g f.b.re g.b.re:=by
  unfold lnZ
  rw [gint01]
  unfold gadd gmul rg
  constructor<;>(dsimp only; grind)
 refine ⟨⟨?_,?_⟩,ha,hb⟩
 · show valQ f (lnZ f g)=0
   rw [val_eq,hz.1,hz.2,ha]
   refine eq_of_mul h0 ?_
   generalize lnV f g f.b.im g.b.im=u at *
   generalize lnV f g f.b.re g.b.re=v at *
   unfold lnD at *
   grind
 · show valQ g (lnZ f g)=0
   rw [val_eq,hz.1,hz.2,hb]
   refine eq_of_mul h0 ?_
   generalize lnV f g f.b.im g.b.im=u at *
   generalize lnV f g f.b.re g.b.re=v at *
   unfold lnD at *
   grind
def ptCells (p:Pt):List Value:=(pw p).map fun l=>l.den idE
def rdPt (d t:Nat) (cs:List Cd) (o:Nat) (p:Pt) (hc:∀ j v,(ptCells p)[j]?=some v→cs[o+j]?=some (.v v)) (k n:Nat):Ev Tryz.prog :=
 .rd d (.load PTT (.tmp t)) (fun β=>[.pointer (some ⟨(β k).b,o,none⟩)]) [(k,(rowT PTT cs).ob)] 0 (svP p) [] (fun β w h ρ op ho hx'=>by
  have h1:RW PTT cs w (β k):=h (k,(rowT PTT cs).ob) (by simp)
  have h2:ρ (.tmp t)=.pointer (some ⟨(β k).b,o,none⟩):=by simpa [Op.operands] using hx'
  refine ⟨[],w,(fun _ h=>by cases h),?_,trivial,Below.refl _ _⟩
  have hr:w.rangeAt (β k).b o (ptCells p):=fun j v hv=>rw_cell h1 (hc j v hv)
  have hl:=run_loadAt_mid (P:=Tryz.prog) w (β k).b o PTT _ _ hr Tryz.underlying51 (by kernel_rfl) (by kernel_rfl)
  rw [extE_nil]
  unfold execOp
  rw [ho]
  simp only [h2]
  simp [hl,Result.andThen]
  rfl)
def isPt0 (p:Pt) (cs:List Cd) (o:Nat):Prop:=∀ j v,(ptCells p)[j]?=some v→cs[o+j]?=some (.v v)
theorem pt2_at0 (p q:Pt):isPt0 p (pt2 p q) 0:=fun j v h=>by
 match j,h with
 | 0,h=>exact congrArg (Option.map Cd.v) h
 | 1,h=>exact congrArg (Option.map Cd.v) h
 | 2,h=>exact congrArg (Option.map Cd.v) h
 | 3,h=>exact congrArg (Option.map Cd.v) h
 | 4,h=>exact congrArg (Option.map Cd.v) h
 | 5,h=>exact congrArg (Option.map Cd.v) h
 | 6,h=>exact congrArg (Option.map Cd.v) h
 | 7,h=>exact congrArg (Option.map Cd.v) h
 | 8,h=>exact congrArg (Option.map Cd.v) h
 | j+9,h=>cases h
def dPt0 (p q:Pt):Ev Tryz.prog:=.dyn (fun o xs ob=>match o.op with
 | .load T (.tmp _)=>Nat.beq T PTT&&isAd (xs.getD 0 undefS)&&(match ob[(adOf (xs.getD 0 undefS)).1]? with | some (.th _)=>true | _=>false)
 | _=>false) fun o xs ob=>match o.op with
 | .load _ (.tmp t)=>lit (adOf (xs.getD 0 undefS)).1 fun k=>rdPt (o.dst.getD 0) t (pt2 p q) 0 p (pt2_at0 p q) k 0
 | _=>.eqv 0 undef undef rfl
def rdIdxPt (d t:Nat) (cs:List Cd) (ix:Operand) (n j:Nat) (hj:Nat.blt j n=true) (k:Nat):Ev Tryz.prog :=
 .rd d (.indexAddr PSL (.tmp t) ix) (fun β=>[.slice ((β k).v cs.length) n ((β k).c cs.length),.int .i64 (j:Int)]) [(k,(rowT PTT cs).ob)] 0 (.one (.c (.b (.p k (j*9))))) [] (fun β w h ρ op ho hx'=>by
  have h1:RW PTT cs w (β k):=h (k,(rowT PTT cs).ob) (by simp)
  have h2:ρ (.tmp t)=.slice (some ⟨(β k).b,0,none⟩) n ((β k).c cs.length)∧ρ ix=.int .i64 (j:Int):=by
   rw [h1.2.1.2] at hx'
   simpa [Op.operands] using hx'
  rw [Nat.blt_eq] at hj
  refine ⟨[],w,(fun _ h=>by cases h),?_,trivial,Below.refl _ _⟩
  rw [extE_nil]
  unfold execOp
  rw [ho]
  simp only [h2.1,h2.2]
  have hi:=run_indexAt_slice (P:=Tryz.prog) w PSL ⟨(β k).b,0,none⟩ n ((β k).c cs.length) .i64 (j:Int) (by kernel_rfl)
  have hsz:(sizeOf (Tryz.prog.elem PSL)).run Tryz.prog w=.ok 9 w:=by kernel_rfl
  rw [if_pos ⟨by omega,by omega⟩,hsz,Result.andThen_ok,Int.toNat_natCast] at hi
  have ha:(⟨(β k).b,0,none⟩:Addr).add (j*9)=⟨(β k).b,j*9,none⟩:=by
   simp [Addr.add]
   exact fun h=>h.symm
  rw [ha] at hi
  simp only [Sem.run_bind,hi,Result.andThen_ok]
  rfl)
def dIdxPt (cs:List Cd):Ev Tryz.prog:=.dyn (fun o xs ob=>match o.op with
 | .indexAddr _ (.tmp _) _=>isY (xs.getD 0 undefS)
 | _=>false) fun o xs ob=>match o.op with
 | .indexAddr _ (.tmp t) ix=>lit (yOf (xs.getD 0 undefS)).1 fun k=>lit (yOf (xs.getD 0 undefS)).2 fun n=>lit (intS (xs.getD 1 undefS)) fun j=>if h:Nat.blt j n=true then rdIdxPt (o.dst.getD 0) t cs ix n j h k else .eqv 0 undef undef rfl
 | _=>.eqv 0 undef undef rfl
abbrev cq (x y z:Int):RQ:=⟨Rat.divInt 1 1,gint x y,Rat.divInt z 1⟩
theorem cq_may {x y z:Int} (hx:x.natAbs<256) (hy:y.natAbs<256) (hz:z.natAbs<256) (hp:decide ((rpow (cq x y z)).num.sign≤0)=false) (h1:decide ((rone (cq x y z)).a=(cq x y z).a)=true) (h2:decide ((rone (cq x y z)).b.re=(cq x y z).b.re)=true) (h3:decide ((rone (cq x y z)).b.im=(cq x y z).b.im)=true) (h4:decide ((rone (cq x y z)).c=(cq x y z).c)=true):MayC (cq x y z) :=
 ⟨⟨sz_lit1 (by decide),fit_int hx hy,sz_lit1 hz⟩,hp,rq_lit h1 h2 h3 h4⟩
theorem wt_eq {r s:RQ} (hp:decide ((rpow r).num.sign≤0)=false) (e:rone r=s):wtA r=.tup [.a (cC s),nI' 0]:=by
 rw [wtA,(wt_yes hp).1,(wt_yes hp).2,e]
theorem mx_eq {r s:RQ} (hp:wtB r=false) (e:rone r=s) (h:FitC s):mxA r=.tup [.a (cC s),nI' 0]:=by
 rw [mxA,(mx_yes hp).1,(mx_yes hp).2,e,(ci_fit h).1,(ci_fit h).2]
theorem may00:MayC (cq 0 0 (-1)):=cq_may (by decide) (by decide) (by decide) (by kernel_rfl) (by kernel_rfl) (by kernel_rfl) (by kernel_rfl) (by kernel_rfl)
theorem may10:MayC (cq (-1) 0 0):=cq_may (by decide) (by decide) (by decide) (by kernel_rfl) (by kernel_rfl) (by kernel_rfl) (by kernel_rfl) (by kernel_rfl)
theorem may20:MayC (cq (-2) 0 3):=cq_may (by decide) (by decide) (by decide) (by kernel_rfl) (by kernel_rfl) (by kernel_rfl) (by kernel_rfl) (by kernel_rfl)
theorem may025:MayC (cq 0 0 (-25)):=cq_may (by decide) (by decide) (by decide) (by kernel_rfl) (by kernel_rfl) (by kernel_rfl) (by kernel_rfl) (by kernel_rfl)
theorem may6:MayC (cq (-6) 0 11):=cq_may (by decide) (by decide) (by decide) (by kernel_rfl) (by kernel_rfl) (by kernel_rfl) (by kernel_rfl) (by kernel_rfl)
theorem may40:MayC (cq (-4) 0 15):=cq_may (by decide) (by decide) (by decide) (by kernel_rfl) (by kernel_rfl) (by kernel_rfl) (by kernel_rfl) (by kernel_rfl)
theorem may04:MayC (cq 0 4 15):=cq_may (by decide) (by decide) (by decide) (by kernel_rfl) (by kernel_rfl) (by kernel_rfl) (by kernel_rfl) (by kernel_rfl)
theorem may22:MayC (cq (-2) 2 1):=cq_may (by decide) (by decide) (by decide) (by kernel_rfl) (by kernel_rfl) (by kernel_rfl) (by kernel_rfl) (by kernel_rfl)
noncomputable def sRnd (n m s x y z:Int) (hn:n.natAbs<256) (hm:m.natAbs<256) (hs:s.natAbs<256) (hp:decide ((rpow (roundQ (gint n m) (Rat.divInt s 1))).num.sign≤0)=false) (e:rone (roundQ (gint n m) (Rat.divInt s 1))=cq x y z):Spec Tryz.prog :=
 Spec.auto Tryz.call245 [.one (svI n),.one (svI m),.one (svI s)] [] (.one (.a (cC (cq x y z)))) []
  [(sR4Int n m (by omega) (by omega)).e,(sR3Int s (by omega)).e,((sCRRound (fit_int hn hm) (sz_lit1 hs)).conv (.tup [.a (cC (cq x y z)),nI' 0]) (wt_eq hp e)).e] [] 400 Tryz.func245 hmA (by kernel_rfl) (fun β=>by kernel_rfl)
noncomputable def k001:Spec Tryz.prog:=sRnd 0 0 1 0 0 (-1) (by decide) (by decide) (by decide) (by kernel_rfl) (rq_lit (by kernel_rfl) (by kernel_rfl) (by kernel_rfl) (by kernel_rfl))
noncomputable def k101:Spec Tryz.prog:=sRnd 1 0 1 (-1) 0 0 (by decide) (by decide) (by decide) (by kernel_rfl) (rq_lit (by kernel_rfl) (by kernel_rfl) (by kernel_rfl) (by kernel_rfl))
noncomputable def k201:Spec Tryz.prog:=sRnd 2 0 1 (-2) 0 3 (by decide) (by decide) (by decide) (by kernel_rfl) (rq_lit (by kernel_rfl) (by kernel_rfl) (by kernel_rfl) (by kernel_rfl))
noncomputable def k0025:Spec Tryz.prog:=sRnd 0 0 25 0 0 (-25) (by decide) (by decide) (by decide) (by kernel_rfl) (rq_lit (by kernel_rfl) (by kernel_rfl) (by kernel_rfl) (by kernel_rfl))
noncomputable def k6025:Spec Tryz.prog:=sRnd 6 0 25 (-6) 0 11 (by decide) (by decide) (by decide) (by kernel_rfl) (rq_lit (by kernel_rfl) (by kernel_rfl) (by kernel_rfl) (by kernel_rfl))
noncomputable def k401:Spec Tryz.prog:=sRnd 4 0 1 (-4) 0 15 (by decide) (by decide) (by decide) (by kernel_rfl) (rq_lit (by kernel_rfl) (by kernel_rfl) (by kernel_rfl) (by kernel_rfl))
noncomputable def k041:Spec Tryz.prog:=sRnd 0 4 1 0 4 15 (by decide) (by decide) (by decide) (by kernel_rfl) (rq_lit (by kernel_rfl) (by kernel_rfl) (by kernel_rfl) (by kernel_rfl))
noncomputable def k227:Spec Tryz.prog:=sRnd 2 2 7 (-2) 2 1 (by decide) (by decide) (by decide) (by kernel_rfl) (rq_lit (by kernel_rfl) (by kernel_rfl) (by kernel_rfl) (by kernel_rfl))
theorem fq_eq {x y:Rat} (e:decide (x=y)=true) (h:Fit y):SV.tup [.a (fA x),nI' (ansK x)]=.tup [.a (fC y),nI' 0]:=by
 rw [of_decide_eq_true e,(fA_fit h).1,(fA_fit h).2]
theorem fit14:Fit (Rat.divInt 1 4):=(sz_divInt (by decide) (sz_small (by decide)) (sz_small (by decide)):Sz 1 (Rat.divInt 1 4)).fit (by decide)
noncomputable def kSquare:Spec Tryz.prog:=(sMSq may00 may10).conv (.tup [.a (fC (Rat.divInt 1 4)),nI' 0]) (fq_eq (by kernel_rfl) fit14)
noncomputable def kLies:Spec Tryz.prog:=(sMLies may00 may20 (s:=false) (by kernel_rfl) (c:=0) (by kernel_rfl)).conv (.tup [nI' 1,nI' 0]) (by kernel_rfl)
abbrev lnQ:RQ:=⟨Rat.divInt 0 1,gint 1 0,Rat.divInt (-2) 1⟩
theorem ln_fit:FitC lnQ:=⟨sz_lit1 (by decide),fit_int (by decide) (by decide),sz_lit1 (by decide)⟩
noncomputable def kAxis:Spec Tryz.prog:=(sMAxis may00 may20 (k:=.none) ⟨by kernel_rfl,by kernel_rfl⟩).conv (.tup [.a (cC lnQ),nI' 0]) (mx_eq (by kernel_rfl) (rq_lit (by kernel_rfl) (by kernel_rfl) (by kernel_rfl) (by kernel_rfl)) ln_fit)
noncomputable def kAcross:Spec Tryz.prog:=(sMAcross may00 may40 may04).conv (.tup [.a (cC (cq (-2) 2 1)),nI' 0]) (mx_eq (by kernel_rfl) (rq_lit (by kernel_rfl) (by kernel_rfl) (by kernel_rfl) (by kernel_rfl)) may22.fit)
theorem gq_lit {z w:GQ} (h1:decide (z.re=w.re)=true) (h2:decide (z.im=w.im)=true):z=w:=by
 obtain ⟨a,b⟩:=z
 obtain ⟨c,d⟩:=w
 obtain rfl:a=c:=of_decide_eq_true h1
 obtain rfl:b=d:=of_decide_eq_true h2
 rfl
theorem cq_sz {x y z:Int} (hx:x.natAbs<256) (hy:y.natAbs<256) (hz:z.natAbs<256):RSz KI (cq x y z):=⟨(Sz.small (by decide)).mono (by decide),⟨(Sz.small hx).mono (by decide),(Sz.small hy).mono (by decide)⟩,(Sz.small hz).mono (by decide)⟩
abbrev lq (x y z:Int):RQ:=⟨Rat.divInt 0 1,gint x y,Rat.divInt z 1⟩
theorem lq_sz {x y z:Int} (hx:x.natAbs<256) (hy:y.natAbs<256) (hz:z.natAbs<256):RSz KI (lq x y z):=⟨(Sz.small (by decide)).mono (by decide),⟨(Sz.small hx).mono (by decide),(Sz.small hy).mono (by decide)⟩,(Sz.small hz).mono (by decide)⟩
theorem pa_eq {p:Pt} (h:FitP p):SV.tup [.a (lsX (paC p)),.c (.b (.v (.int .i64 (paK p))))]=.tup [.a (pw p),nI' 0]:=by
 rw [paC_raw,(pa_fit h).1,(pa_fit h).2.1,(pa_fit h).2.2,paK_fit h]
noncomputable def kToldP {p:Pt} (h:FitP p):Spec Tryz.prog:=(sToldP p (h.sz.mono (by decide))).conv (.tup [.a (pw p),nI' 0]) (pa_eq h)
abbrev pA:Pt:=ptI 3 4
abbrev pB:Pt:=ptI 3 (-4)
theorem pA_fit:FitP pA:=ptI_fit (by decide) (by decide)
theorem pB_fit:FitP pB:=ptI_fit (by decide) (by decide)
theorem rt1:RootB (cuX (lq 6 0 (-36)) (cq 0 0 (-25))) 4 9 2 3:=⟨by kernel_rfl,by kernel_rfl,by decide,by decide,by decide,by decide,dig_big (k:=1) (by decide) (by decide),dig_big (k:=1) (by decide) (by decide),by decide,Nat.le_trans (sz_small (by decide)) (by decide),Nat.le_trans (sz_small (by decide)) (by decide)⟩
theorem rt2:RootB (cuX (lq 1 0 (-1)) (cq 0 0 (-1))) 3 4 1 2:=⟨by kernel_rfl,by kernel_rfl,by decide,by decide,by decide,by decide,dig_big (k:=1) (by decide) (by decide),dig_big (k:=1) (by decide) (by decide),by decide,Nat.le_trans (sz_small (by decide)) (by decide),Nat.le_trans (sz_small (by decide)) (by decide)⟩
abbrev plK:List Cd:=plC (gint 3 4)++plC (gint 3 (-4))
theorem one_ne0:(cq 0 0 0).a≠0:=of_decide_eq_true (by kernel_rfl:decide ((Rat.divInt 1 1:Rat)≠0)=true)
theorem cn1:cuN (lq 6 0 (-36))≠0:=of_decide_eq_true (by kernel_rfl:decide (cuN (lq 6 0 (-36))≠0)=true)
theorem cn2:cuN (lq 1 0 (-1))≠0:=of_decide_eq_true (by kernel_rfl:decide (cuN (lq 1 0 (-1))≠0)=true)
noncomputable def kCut:Spec Tryz.prog:=(sCutYes (l:=lq 6 0 (-36)) (k:=cq 0 0 (-25)) (lq_sz (by decide) (by decide) (by decide)) (cq_sz (by decide) (by decide) (by decide)) one_ne0 cn1 rt1 (by kernel_rfl)).newsAs [rowT PLT plK] (by
 have e1:gadd (cuF (lq 6 0 (-36)) (cq 0 0 (-25))) (cuB (lq 6 0 (-36)) (Rat.divInt (2:Nat) (3:Nat)))=gint 3 4:=gq_lit (by kernel_rfl) (by kernel_rfl)
 have e2:gsub (cuF (lq 6 0 (-36)) (cq 0 0 (-25))) (cuB (lq 6 0 (-36)) (Rat.divInt (2:Nat) (3:Nat)))=gint 3 (-4):=gq_lit (by kernel_rfl) (by kernel_rfl)
 show [rowT PLT (plC (gadd (cuF (lq 6 0 (-36)) (cq 0 0 (-25))) (cuB (lq 6 0 (-36)) (Rat.divInt (2:Nat) (3:Nat))))++plC (gsub (cuF (lq 6 0 (-36)) (cq 0 0 (-25))) (cuB (lq 6 0 (-36)) (Rat.divInt (2:Nat) (3:Nat)))))]=_
 rw [e1,e2])
noncomputable def kCutNo:Spec Tryz.prog:=sCutNo (l:=lq 1 0 (-1)) (k:=cq 0 0 (-1)) (lq_sz (by decide) (by decide) (by decide)) (cq_sz (by decide) (by decide) (by decide)) one_ne0 cn2 rt2 (by kernel_rfl)
theorem a1_ne:decide ((Rat.divInt 1 1:Rat)=0)=false:=by kernel_rfl
noncomputable def kAx1:Spec Tryz.prog:=(sAxNone may025 may6 a1_ne a1_ne (b:=false) (by kernel_rfl)).newsAs (rgT (lq 6 0 (-36))) (by
 have e:axQ (cq 0 0 (-25)) (cq (-6) 0 11)=lq 6 0 (-36):=rq_lit (by kernel_rfl) (by kernel_rfl) (by kernel_rfl) (by kernel_rfl)
 show rgT (axQ (cq 0 0 (-25)) (cq (-6) 0 11))=_
 rw [e])
noncomputable def kAx2:Spec Tryz.prog:=(sAxNone may00 may10 a1_ne a1_ne (b:=false) (by kernel_rfl)).newsAs (rgT (lq 1 0 (-1))) (by
 have e:axQ (cq 0 0 (-1)) (cq (-1) 0 0)=lq 1 0 (-1):=rq_lit (by kernel_rfl) (by kernel_rfl) (by kernel_rfl) (by kernel_rfl)
 show rgT (axQ (cq 0 0 (-1)) (cq (-1) 0 0))=_
 rw [e])
noncomputable def kLs1:Spec Tryz.prog:=(sMLies may025 may6 (s:=false) (by kernel_rfl) (c:=-1) (by kernel_rfl)).conv (.tup [nI' 2,nI' 0]) (by kernel_rfl)
noncomputable def kLs2:Spec Tryz.prog:=(sMLies may00 may10 (s:=false) (by kernel_rfl) (c:=-1) (by kernel_rfl)).conv (.tup [nI' 2,nI' 0]) (by kernel_rfl)
noncomputable def kSort:RNew Tryz.prog:=sSortP (p:=pA) (q:=pB) pA_fit pB_fit (by kernel_rfl) (by kernel_rfl)
noncomputable def kPts1:Spec Tryz.prog :=
 Spec.auto Tryz.call105 [frS (cq 0 0 (-25)),frS (cq (-6) 0 11)] [] (.tup [.c (.b (.y 0 18 2)),nI' 0]) [rowT PTT (pt2 pB pA)]
  ([kLs1.e,(sMtOf may025.fit).e,(sMtOf may6.fit).e]++sgR 69 a1_ne++[kAx1.e]++sgR 37 a1_ne++[kCut.e,dIdxP PLT plK,dPlace PLT plK,(kToldP pA_fit).e,.app appPt,dIdxP PLT plK,dPlace PLT plK,(kToldP pB_fit).e,.app appPt,kSort.e]) [(2,6)] 1500 Tryz.func105 hmA (by kernel_rfl) (fun β=>by kernel_rfl)
noncomputable def kPts2:Spec Tryz.prog :=
 Spec.auto Tryz.call105 [frS (cq 0 0 (-1)),frS (cq (-1) 0 0)] [] (.tup [.c (.b (.v (.slice none 0 0))),nI' 230]) []
  ([kLs2.e,(sMtOf may00.fit).e,(sMtOf may10.fit).e]++sgR 69 a1_ne++[kAx2.e]++sgR 37 a1_ne++[kCutNo.e]) [(2,6)] 1500 Tryz.func105 hmA (by kernel_rfl) (fun β=>by kernel_rfl)
def sNum13 (k:Int):Spec Tryz.prog:=Spec.auto Tryz.call110 [.one (nI' k)] [] (.one (nI' k)) [] [] [] 400 Tryz.func110 hmA (by kernel_rfl) (fun β=>by kernel_rfl)
def eqF14:Ev Tryz.prog:=eqEvF (fR (Rat.divInt 1 4)) (fR (Rat.divInt 1 4)) true (R4.eq_iff.2 rfl)
def eqQ (r:RQ):Ev Tryz.prog:=eqC1 (fR r.a) (fR r.b.re) (fR r.b.im) (fR r.c)
noncomputable def sKnown13:Spec Tryz.prog :=
 Spec.auto Tryz.call104 [] [] (tB' true) []
  [k001.e,k101.e,kSquare.e,k201.e,kLies.e,k0025.e,k6025.e,kPts1.e,k101.e,kPts2.e,k201.e,kAxis.e,k401.e,k041.e,kAcross.e,(sR3Int 0 (by decide)).e,(sR4Int 1 0).e,(sR3Int (-2) (by decide)).e,
   (sR3Small 1 4 (by decide) (by decide) (by decide) (Nat.le_trans (sz_small (by decide)) (by decide)) (Nat.le_trans (sz_small (by decide)) (by decide))).e,eqF14,(sNum13 0).e,(sNum13 0).e,dIdxPt (pt2 pB pA),dPt0 pB pA,(sR7Int 3 (-4)).e,eqEvPt (ptB_iff.2 rfl:ptB pB pB=true),(sNum13 0).e,(sNum13 230).e,eqQ lnQ,(sNum13 0).e,k227.e,eqQ (cq (-2) 2 1),(sNum13 0).e]
  [(2,2007009),(3,8),(5,8),(6,4007009),(7,5008010),(9,60)] 3000 Tryz.func104 hmA (by kernel_rfl) (fun β=>by kernel_rfl)
abbrev c4 (p:Cp):List Lf:=rL p.a++rL p.b++rL p.b'++rL p.c
def smC (p:Cp):Bool:=smB 60 p.a p.c&&smB 60 p.b p.b'
section
noncomputable def ckR:Cp→Ev Tryz.prog
 | .ok r h=>(sRCk h).e
 | .no _ _ _ _ h=>(sRCkNo h).e
abbrev my3A:List SV:=[.one (.c (.b (.s 0 0 3 3)))]
theorem my3_ok (p q r:Cp) {b:Bool} (hb:(p.B&&(q.B&&r.B))=b) (β:Env) (w:World) (hh:(Ob.box (c4 p++c4 q++c4 r) CIT).holds β w (β 0)) :
  Calls Tryz.prog 106 (my3A.map (SV.den β)).toArray w fun e w'=>e=.returned (.bool b)∧Below w.heap.size w w':=by
 subst hb
 cases p with
 | no a b b' c hp=>exact bspec_ok [ckR (.no a b b' c hp)] [] 800 Tryz.func106 hmA (fun β=>by kernel_rfl) (by kernel_rfl) (fun β=>rfl) β w hh
 | ok s hs=>cases q with
  | no a b b' c hp=>exact bspec_ok [ckR (.ok s hs),ckR (.no a b b' c hp)] [] 800 Tryz.func106 hmA (fun β=>by kernel_rfl) (by kernel_rfl) (fun β=>rfl) β w hh
  | ok t ht=>cases r with
   | no a b b' c hp=>exact bspec_ok [ckR (.ok s hs),ckR (.ok t ht),ckR (.no a b b' c hp)] [] 800 Tryz.func106 hmA (fun β=>by kernel_rfl) (by kernel_rfl) (fun β=>rfl) β w hh
   | ok u hu=>exact bspec_ok [ckR (.ok s hs),ckR (.ok t ht),ckR (.ok u hu)] [] 800 Tryz.func106 hmA (fun β=>by kernel_rfl) (by kernel_rfl) (fun β=>rfl) β w hh
noncomputable def sMayThree (p q r:Cp) {b:Bool} (hb:(p.B&&(q.B&&r.B))=b):BSpec Tryz.prog :=
 ⟨106,Tryz.call106,my3A,c4 p++c4 q++c4 r,CIT,.bool b,my3_ok p q r hb,by kernel_rfl,fun _=>rfl⟩
end
structure OwnSp (P:Program) where
 f:FuncId
 en:Enters P f
 args:List SV
 row:Ob
 res:SV
 ok:∀ β w,Calls P f (args.map (SV.den β)).toArray w fun e w'=>∃ g:Pl,w.heap.size≤g.b∧e=.returned (res.den (fun _=>g))∧row.holds (fun _=>g) w' g∧Below w.heap.size w w'
 cl:(row.of (fun _=>false)&&(args.all (SV.of fun _=>false)&&res.of fun k=>Nat.beq k 0))=true
def OwnSp.e {P:Program} (S:OwnSp P):Ev P:=.dyn (fun o _ _=>isCallB o) fun _ xs ob=>lit ob.length fun n =>
 .own S.f S.en (fun β=>(S.args.map (SV.den β)).toArray) [] n S.row (S.res.ren fun _=>n) [] (fun β w _=>by
  have hc:=S.cl
  simp only [Bool.and_eq_true] at hc
  obtain ⟨c2,c3,c4⟩:=hc
  refine (S.ok β w).mono ?_
  rintro e w' ⟨g,k1,rfl,k3,k4⟩
  have hg:extE β n [g] n=g:=extE_in (i:=0) (xs:=[g]) rfl
  refine ⟨g,[],⟨k1,(fun _ h=>by cases h),(fun _ h=>by cases h)⟩,?_,Ob.holds_congr (q:=fun _=>false) (fun k hk=>by cases hk) _ c2 k3,trivial,k4⟩
  rw [SV.den_ren]
  congr 1
  exact SV.den_congr (q:=fun k=>Nat.beq k 0) (fun k _=>hg.symm) _ c4)
theorem own_ok {P:Program} {f:FuncId} {fn:Func} {args:List SV} {row:Ob} {res:SV} {K:Nat} (evs:List (Ev P)) (Ns:List (Nat × Nat)) (m:Nat) (hf:P.funcs[f]?=some fn) (hm:P.follows .mixedOrders=true)
  (h:∀ β,(allS P fn args [] evs Ns m (res.ren fun _=>K) [(K,row)] β).map Prod.fst=(allS P fn args [] evs Ns m (res.ren fun _=>K) [(K,row)] β).map Prod.snd)
  (hB:args.all (SV.of fun k=>Nat.blt k 0)=true) (hl:row.layOf.isSome=true) (hr:row.of (fun _=>false)=true) (hres:(res.of fun k=>Nat.beq k 0)=true) (β:Env) (w:World) :
  Calls P f (args.map (SV.den β)).toArray w fun e w'=>∃ g:Pl,w.heap.size≤g.b∧e=.returned (res.den (fun _=>g))∧row.holds (fun _=>g) w' g∧Below w.heap.size w w':=by
 refine (sxN (P:=P) args [] evs Ns m (res.ren fun _=>K) [(K,row)] hf hm (fun β=>ok_of_maps (h β)) hB rfl β w (fun k o ho=>by simp at ho)).mono ?_
 rintro e u ⟨β',q,obj,e1,rfl,_,e4,e5,g,hl2⟩
 refine ⟨β' K,hl2 _ (List.mem_cons_self ..) hl (Nat.zero_le _),?_,Ob.holds_congr (q:=fun _=>false) (fun k hk=>by cases hk) _ hr (e5 _ (List.mem_cons_self ..)),g.bel⟩
 rw [SV.den_ren]
abbrev KP:Nat:=100000
abbrev rpA (f g:RQ):List SV:=[frS f,frS g]
theorem sort_own {a b:Pt} {w:World} {β:Env} {evs:List (Ev Tryz.prog)} {src:Ob} (h:∀ β,(allS Tryz.prog Tryz.f252 [r2V] [src] evs [] 800 (.tup [.c (.b (.s 1 0 2 2)),nI' 0]) [(1,.row (pw a++pw b) PTT 2 9)] β).map Prod.fst=(allS Tryz.prog Tryz.f252 [r2V] [src] evs [] 800 (.tup [.c (.b (.s 1 0 2 2)),nI' 0]) [(1,.row (pw a++pw b) PTT 2 9)] β).map Prod.snd)
  (hB:([src].all fun x=>x.of (fun k=>Nat.blt k 1)&&x.own)=true) (hh:src.holds β w (β 0)) :
  Calls Tryz.prog 252 (([r2V]:List SV).map (SV.den β)).toArray w fun e u=>∃ g:Pl,w.heap.size≤g.b∧e=.returned ((SV.tup [.c (.b (.s 0 0 2 2)),nI' 0]).den (fun _=>g))∧(pr2 a b).holds (fun _=>g) u g∧Below w.heap.size w u:=by
 refine (sxN (P:=Tryz.prog) [r2V] [src] evs [] 800 (.tup [.c (.b (.s 1 0 2 2)),nI' 0]) [(1,.row (pw a++pw b) PTT 2 9)] Tryz.func252 hmA (fun β=>ok_of_maps (h β)) (by kernel_rfl) hB β w (fun k o ho=>?_)).mono ?_
 · cases k with
   | zero=>simp only [List.getElem?_cons_zero] at ho; obtain rfl:=Option.some.inj ho; exact hh
   | succ k=>simp at ho
 · rintro e u ⟨β',q,obj,e1,rfl,_,e4,e5,g,hl⟩
   have h5:=e5 _ (List.mem_cons_self ..)
   exact ⟨β' 1,hl _ (List.mem_cons_self ..) rfl (Nat.le_refl 1),rfl,Ob.holds_congr (q:=fun _=>false) (fun k hk=>by cases hk) _ (by kernel_rfl) h5,g.bel⟩
noncomputable def sSortP2 {p q:Pt} (hp:FitP p) (hq:FitP q) (hne:ptB q p=false) (h:decide (ordI q p<0)=true):RRow Tryz.prog :=
 ⟨252,Tryz.call252,[r2V],pr2 p q,pr2 q p,.tup [.c (.b (.s 0 0 2 2)),nI' 0],fun β w hh=>sort_own (evs:=srE hp hq hne h) (fun β=>by kernel_rfl) (by kernel_rfl) hh,by kernel_rfl⟩
noncomputable def sSortQ2 {p q:Pt} (hp:FitP p) (hq:FitP q) (hne:ptB q p=false) (h:decide (ordI q p<0)=false):RRow Tryz.prog :=
 ⟨252,Tryz.call252,[r2V],pr2 p q,pr2 p q,.tup [.c (.b (.s 0 0 2 2)),nI' 0],fun β w hh=>sort_own (evs:=srE hp hq hne h) (fun β=>by kernel_rfl) (by kernel_rfl) hh,by kernel_rfl⟩
abbrev pr1 (p:Pt):Ob:=.row (pw p) PTT 1 9
abbrev r1V:SV:=.one (.c (.b (.r 0 1)))
section
variable {p:Pt} (hp:FitP p)
noncomputable def sPIdx1:RSpec Tryz.prog :=
 RSpec.auto Tryz.call340 [r1V,fvV 325] (pr1 p) (.one (svI (-1))) [(sChk1 hp).e] [] 800 Tryz.func340 hmA (by kernel_rfl) (by kernel_rfl) (by kernel_rfl) (fun β=>by kernel_rfl)
noncomputable def sPHas1:RSpec Tryz.prog :=
 RSpec.auto Tryz.call219 [r1V,fvV 325] (pr1 p) (.one (.c (.b (.v (.bool false))))) [(sPIdx1 hp).e] [] 400 Tryz.func219 hmA (by kernel_rfl) (by kernel_rfl) (by kernel_rfl) (fun β=>by kernel_rfl)
noncomputable def sPCheck1:RSpec Tryz.prog :=
 RSpec.auto Tryz.call166 [r1V] (pr1 p) (.one (svI 0)) [(sPHas1 hp).e] [] 400 Tryz.func166 hmA (by kernel_rfl) (by kernel_rfl) (by kernel_rfl) (fun β=>by kernel_rfl)
end
noncomputable def sPClone1 (p:Pt):RRow Tryz.prog :=
 ⟨363,Tryz.call363,[r1V],pr1 p,pr1 p,r1V,
  rrow_ok (N:=2) [.app appPt,.app appPt] [] 400 Tryz.func363 hmA (fun β=>by kernel_rfl) (by kernel_rfl) (by kernel_rfl) (by kernel_rfl),by kernel_rfl⟩
def sLen641:Spec Tryz.prog :=
 Spec.auto Tryz.call427 [.one (.c (.b (.v (.int .u64 1))))] [] (.one (svI 1)) [] [] [] 400 Tryz.func427 hmA (by kernel_rfl) (fun β=>by kernel_rfl)
def sBits1:Spec Tryz.prog :=
 Spec.auto Tryz.call406 [.one (.c (.b (.v (.int .u64 1))))] [] (.one (svI 1)) [] [sLen641.e] [] 400 Tryz.func406 hmA (by kernel_rfl) (fun β=>by kernel_rfl)
noncomputable def sIns1 (p:Pt):MSpec Tryz.prog :=
 ⟨418,Tryz.call418,[r1V,.one (svI 0),.one (svI 1),fvV 167],[],pr1 p,pr1 p,.tup [],[],
  mrow_ok [] [(4,17),(6,1015016)] 800 Tryz.func418 hmA (fun β=>by kernel_rfl) (by kernel_rfl) (by kernel_rfl),by kernel_rfl⟩
noncomputable def sPdq1 (p:Pt):MSpec Tryz.prog :=
 ⟨405,Tryz.call405,[r1V,.one (svI 0),.one (svI 1),.one (svI 1),fvV 167],[],pr1 p,pr1 p,.tup [],[],
  mrow_ok [(sIns1 p).e] [(17,17)] 800 Tryz.func405 hmA (fun β=>by kernel_rfl) (by kernel_rfl) (by kernel_rfl),by kernel_rfl⟩
noncomputable def sSort1 (p:Pt):MSpec Tryz.prog :=
 ⟨364,Tryz.call364,[r1V,fvV 167],[],pr1 p,pr1 p,.tup [],[],
  mrow_ok [sBits1.e,(sPdq1 p).e] [] 800 Tryz.func364 hmA (fun β=>by kernel_rfl) (by kernel_rfl) (by kernel_rfl),by kernel_rfl⟩
noncomputable def sCompact1 (p:Pt):RSpec Tryz.prog :=
 RSpec.auto Tryz.call365 [r1V] (pr1 p) r1V [] [(6,10)] 400 Tryz.func365 hmA (by kernel_rfl) (by kernel_rfl) (by kernel_rfl) (fun β=>by kernel_rfl)
theorem slice1_run (w:World) (b:Nat) (c:Nat) (hc:1≤c) :
  (Instr.sliceAt PSL (.slice (some ⟨b,0,none⟩) 1 c) none (some (.int .i64 1)) (some (.int .i64 1))).run Tryz.prog w=.ok (.slice (some ⟨b,0,none⟩) 1 1) w:=by
 rw [run_sliceAt_slice w PSL _ _ _ _ (by kernel_rfl),run_slice_any w PSL _ _ _ (by kernel_rfl)]
 have hz:(sizeOf (Tryz.prog.elem PSL)).run Tryz.prog w=.ok 9 w:=by kernel_rfl
 have h1:(1:Int)≤(c:Int):=by omega
 simp [Instr.sliceBounds,run_sliceBound_if,h1,hz,Result.andThen,sliced,Addr.add]
def rdS1 (cs:List Lf):Ev Tryz.prog:=.rd 22 (.slice PSL (.tmp 17) none (some (.tmp 19)) (some (.tmp 21))) (fun β=>[.slice (some ⟨(β 1).b,0,none⟩) 1 ((β 1).c 0),.int .i64 1,.int .i64 1]) [(1,.row cs PTT 1 9)] 0 (.one (.c (.b (.s 1 0 1 1)))) [] (fun β w h ρ op ho hx=>by
 have h1:(Ob.row cs PTT 1 9).holds β w (β 1):=h _ (List.mem_singleton.2 rfl)
 obtain ⟨_,cur,_,_,h2,_⟩:=h1
 have h3:ρ (.tmp 17)=.slice (some ⟨(β 1).b,0,none⟩) 1 ((β 1).c 0)∧ρ (.tmp 19)=.int .i64 1∧ρ (.tmp 21)=.int .i64 1:=by simpa [Op.operands] using hx
 refine ⟨[],w,(fun _ h=>by cases h),?_,trivial,Below.refl _ _⟩
 rw [extE_nil]
 unfold execOp
 rw [ho]
 simp only [h3.1,h3.2.1,h3.2.2,Option.map_some,Option.map_none]
 simp [slice1_run w _ _ h2,Result.andThen]
 rfl)
theorem sort1_own {p:Pt} (hp:FitP p) (β:Env) (w:World) (hh:(pr1 p).holds β w (β 0)) :
  Calls Tryz.prog 252 (([r1V]:List SV).map (SV.den β)).toArray w fun e u=>∃ g:Pl,w.heap.size≤g.b∧e=.returned ((SV.tup [.c (.b (.s 0 0 1 1)),nI' 0]).den (fun _=>g))∧(pr1 p).holds (fun _=>g) u g∧Below w.heap.size w u:=by
 refine (sxN (P:=Tryz.prog) [r1V] [pr1 p] [(sPCheck1 hp).e,(sPClone1 p).e,(sSort1 p).e,(sCompact1 p).e,rdS1 (pw p)] [] 800 (.tup [.c (.b (.s 1 0 1 1)),nI' 0]) [(1,pr1 p)] Tryz.func252 hmA (fun β=>ok_of_maps (by kernel_rfl)) (by kernel_rfl) (by kernel_rfl) β w (fun k o ho=>?_)).mono ?_
 · cases k with
   | zero=>simp only [List.getElem?_cons_zero] at ho; obtain rfl:=Option.some.inj ho; exact hh
   | succ k=>simp at ho
 · rintro e u ⟨β',q,obj,e1,rfl,_,e4,e5,g,hl⟩
   have h5:=e5 _ (List.mem_cons_self ..)
   exact ⟨β' 1,hl _ (List.mem_cons_self ..) rfl (Nat.le_refl 1),rfl,Ob.holds_congr (q:=fun _=>false) (fun k hk=>by cases hk) _ (by kernel_rfl) h5,g.bel⟩
noncomputable def sSortOne {p:Pt} (hp:FitP p):RRow Tryz.prog :=
 ⟨252,Tryz.call252,[r1V],pr1 p,pr1 p,.tup [.c (.b (.s 0 0 1 1)),nI' 0],sort1_own hp,by kernel_rfl⟩
theorem c0_eq (z:GQ) (h:¬ FitG z):SV.tup [.a (lsX (paC (.fin z))),.c (.b (.v (.int .i64 (paK (.fin z)))))]=.tup [.a (.b (.v (.bool false))::g0C),nI' 4]:=by
 show SV.tup [.a (.b (.v (.bool false))::gaC z),.c (.b (.v (.int .i64 (gaK z))))]=_
 rw [(ga_not h).1,(ga_not h).2]
noncomputable def sToldNo {z:GQ} (h:¬ FitG z) (hz:GSz KB z):Spec Tryz.prog:=(sToldP (.fin z) hz).conv (.tup [.a (.b (.v (.bool false))::g0C),nI' 4]) (c0_eq z h)
abbrev ptNil (k:Int):SV:=.tup [.c (.b (.v (.slice none 0 0))),nI' k]
abbrev ptR2:SV:=.tup [.c (.b (.s 0 0 2 2)),nI' 0]
abbrev ptR1:SV:=.tup [.c (.b (.s 0 0 1 1)),nI' 0]
section
variable {f g:RQ} (hf:MayC f) (hg:MayC g) (sf:RSz 64 f) (sg:RSz 64 g)
noncomputable def ptL {s:Bool} {c:Int} (hs:eqRone f g=s) (hc:cmpQ (fsq f g) one1=c):List (Ev Tryz.prog):=[(sMLies hf hg hs hc).e,(sMtOf hf.fit).e,(sMtOf hg.fit).e]
noncomputable def sPtsSame {c:Int} (hs:eqRone f g=true) (hc:cmpQ (fsq f g) one1=c):Spec Tryz.prog :=
 Spec.auto Tryz.call105 (rpA f g) [] (ptNil 7) [] (ptL hf hg hs hc) [(2,6)] 1500 Tryz.func105 hmA (by kernel_rfl) (fun β=>by kernel_rfl)
noncomputable def sPtsApart (hs:eqRone f g=false) (hc:cmpQ (fsq f g) one1=1):Spec Tryz.prog :=
 Spec.auto Tryz.call105 (rpA f g) [] (ptNil 7) [] (ptL hf hg hs hc) [(2,6)] 1500 Tryz.func105 hmA (by kernel_rfl) (fun β=>by kernel_rfl)
section
variable (hs:eqRone f g=false) (hc:cmpQ (fsq f g) one1=0)
theorem fit_inf:FitP .inf:=trivial
noncomputable def oPtTInf (h:decide ((tcQ f g).a=0)=true):OwnSp Tryz.prog :=
 ⟨105,Tryz.call105,rpA f g,pr1 .inf,ptR1,own_ok (K:=18) (ptL hf hg hs hc++[(sTouchInf sf sg h).e,.app appP,(kToldP (p:=.inf) fit_inf).e,.app appPt,(sSortOne (p:=.inf) fit_inf).e]) [(2,6)] 1500 Tryz.func105 hmA (fun β=>by kernel_rfl) (by kernel_rfl) rfl (by kernel_rfl) (by kernel_rfl),by kernel_rfl⟩
noncomputable def oPtTFin (h:decide ((tcQ f g).a=0)=false) (ht:FitP (.fin (cenQ (tcQ f g)))):OwnSp Tryz.prog :=
 ⟨105,Tryz.call105,rpA f g,pr1 (.fin (cenQ (tcQ f g))),ptR1,own_ok (K:=20) (ptL hf hg hs hc++[(sTouchFin sf sg h).e,.app appP,(kToldP (p:=.fin (cenQ (tcQ f g))) ht).e,.app appPt,(sSortOne (p:=.fin (cenQ (tcQ f g))) ht).e]) [(2,6)] 1500 Tryz.func105 hmA (fun β=>by kernel_rfl) (by kernel_rfl) rfl (by kernel_rfl) (by kernel_rfl),by kernel_rfl⟩
noncomputable def sPtTNo (h:decide ((tcQ f g).a=0)=false) (ht:¬ FitG (cenQ (tcQ f g))):Spec Tryz.prog :=
 Spec.auto Tryz.call105 (rpA f g) [] (ptNil 4) [] (ptL hf hg hs hc++[(sTouchFin sf sg h).e,.app appP,(sToldNo ht ((cenJ (tc_pls sf sg) (of_decide_eq_false h)).mono (by decide))).e]) [(2,6)] 1500 Tryz.func105 hmA (by kernel_rfl) (fun β=>by kernel_rfl)
end
section
variable (hs:eqRone f g=false) (hc:cmpQ (fsq f g) one1 = -1)
noncomputable def ptLn (hA:axAt f g .both) (h0:lnD f g≠0):List (Ev Tryz.prog):=ptL hf hg hs hc++sgR 69 hA.1++sgR 74 hA.2++[(sLines sf sg h0).e,dIdxP PLT (plI (lnZ f g)),dPlace PLT (plI (lnZ f g))]
noncomputable def oPtLn (hA:axAt f g .both) (h0:lnD f g≠0) (ht:FitP (.fin (lnZ f g))):OwnSp Tryz.prog :=
 ⟨105,Tryz.call105,rpA f g,pr2 (.fin (lnZ f g)) .inf,ptR2,own_ok (K:=25) (ptLn hf hg sf sg hs hc hA h0++[(kToldP (p:=.fin (lnZ f g)) ht).e,.app appPt,dIdxP PLT (plI (lnZ f g)),dPlace PLT (plI (lnZ f g)),(kToldP (p:=.inf) fit_inf).e,.app appPt,(sSortQ2 (p:=.fin (lnZ f g)) (q:=.inf) ht fit_inf rfl rfl).e]) [(2,6)] 1500 Tryz.func105 hmA (fun β=>by kernel_rfl) (by kernel_rfl) rfl (by kernel_rfl) (by kernel_rfl),by kernel_rfl⟩
include sf sg in
theorem lnz_sz (h0:lnD f g≠0):GSz KB (lnZ f g):=((rgJ (lnV_sz sf sg h0 sf.b.2 sg.b.2)).add ((rgJ (lnV_sz sf sg h0 sf.b.1 sg.b.1)).mul gi_sz)).mono (by decide)
noncomputable def sPtLnNo (hA:axAt f g .both) (h0:lnD f g≠0) (ht:¬ FitG (lnZ f g)):Spec Tryz.prog :=
 Spec.auto Tryz.call105 (rpA f g) [] (ptNil 4) [] (ptLn hf hg sf sg hs hc hA h0++[(sToldNo ht (lnz_sz sf sg h0)).e]) [(2,6)] 1500 Tryz.func105 hmA (by kernel_rfl) (fun β=>by kernel_rfl)
abbrev ctP (l k:RQ) (t:Rat):GQ:=gadd (cuF l k) (cuB l t)
abbrev ctQ (l k:RQ) (t:Rat):GQ:=gsub (cuF l k) (cuB l t)
abbrev ctK (l k:RQ) (t:Rat):List Cd:=plC (ctP l k t)++plC (ctQ l k t)
theorem ct_sz {l k:RQ} (hl:RSz KI l) (hk:RSz KI k) (h0:k.a≠0) (hn:cuN l≠0) {t:Rat} {j:Nat} (h:Sz j t) (hj:j≤1000000):GSz KB (ctP l k t)∧GSz KB (ctQ l k t) :=
 ⟨((cuF_sz hl hk h0 hn).add (cub_sz hl h)).mono (Nat.le_trans (m:=12000+(1811+1000000)+1) (by omega) (by decide)),((cuF_sz hl hk h0 hn).sub (cub_sz hl h)).mono (Nat.le_trans (m:=12000+(1811+1000000)+1) (by omega) (by decide))⟩
noncomputable def sPtNoOne (hA:axAt f g .one) (hl:RSz KI f) (hk:RSz KI g) (h0:g.a≠0) (hn:cuN f≠0) {n d a b:Nat} (h:RootB (cuX f g) n d a b) (ht:decide (Rat.divInt a b*Rat.divInt a b=cuX f g)=false):Spec Tryz.prog :=
 Spec.auto Tryz.call105 (rpA f g) [] (ptNil 230) [] (ptL hf hg hs hc++sgR 69 hA.1++sgR 74 hA.2++[(sAxOne hA.1 hA.2).e]++sgR 37 hA.1++[(sCutNo hl hk h0 hn h ht).e]) [(2,6)] 1500 Tryz.func105 hmA (by kernel_rfl) (fun β=>by kernel_rfl)
noncomputable def sPtBigAOne (hA:axAt f g .one) (hl:RSz KI f) (hk:RSz KI g) (h0:g.a≠0) (hn:cuN f≠0) {n d a b:Nat} (h:RootB (cuX f g) n d a b) (ht:decide (Rat.divInt a b*Rat.divInt a b=cuX f g)=true) (hP:¬ FitG (ctP f g (Rat.divInt a b))) (hz:GSz KB (ctP f g (Rat.divInt a b))):Spec Tryz.prog :=
 Spec.auto Tryz.call105 (rpA f g) [] (ptNil 4) [] (ptL hf hg hs hc++sgR 69 hA.1++sgR 74 hA.2++[(sAxOne hA.1 hA.2).e]++sgR 37 hA.1++[(sCutYes hl hk h0 hn h ht).e,dIdxP PLT (ctK f g (Rat.divInt a b)),dPlace PLT (ctK f g (Rat.divInt a b)),(sToldNo hP hz).e]) [(2,6)] 1500 Tryz.func105 hmA (by kernel_rfl) (fun β=>by kernel_rfl)
noncomputable def sPtBigBOne (hA:axAt f g .one) (hl:RSz KI f) (hk:RSz KI g) (h0:g.a≠0) (hn:cuN f≠0) {n d a b:Nat} (h:RootB (cuX f g) n d a b) (ht:decide (Rat.divInt a b*Rat.divInt a b=cuX f g)=true) (hP:FitP (.fin (ctP f g (Rat.divInt a b)))) (hQ:¬ FitG (ctQ f g (Rat.divInt a b))) (hz:GSz KB (ctQ f g (Rat.divInt a b))):Spec Tryz.prog :=
 Spec.auto Tryz.call105 (rpA f g) [] (ptNil 4) [] (ptL hf hg hs hc++sgR 69 hA.1++sgR 74 hA.2++[(sAxOne hA.1 hA.2).e]++sgR 37 hA.1++[(sCutYes hl hk h0 hn h ht).e,dIdxP PLT (ctK f g (Rat.divInt a b)),dPlace PLT (ctK f g (Rat.divInt a b)),(kToldP hP).e,.app appPt,dIdxP PLT (ctK f g (Rat.divInt a b)),dPlace PLT (ctK f g (Rat.divInt a b)),(sToldNo hQ hz).e]) [(2,6)] 1500 Tryz.func105 hmA (by kernel_rfl) (fun β=>by kernel_rfl)
noncomputable def oPtOneSw (hA:axAt f g .one) (hl:RSz KI f) (hk:RSz KI g) (h0:g.a≠0) (hn:cuN f≠0) {n d a b:Nat} (h:RootB (cuX f g) n d a b) (ht:decide (Rat.divInt a b*Rat.divInt a b=cuX f g)=true) (hP:FitP (.fin (ctP f g (Rat.divInt a b)))) (hQ:FitP (.fin (ctQ f g (Rat.divInt a b)))) (hne:ptB (.fin (ctQ f g (Rat.divInt a b))) (.fin (ctP f g (Rat.divInt a b)))=false) (hb:decide (ordI (.fin (ctQ f g (Rat.divInt a b))) (.fin (ctP f g (Rat.divInt a b)))<0)=true):OwnSp Tryz.prog :=
 ⟨105,Tryz.call105,rpA f g,pr2 (.fin (ctQ f g (Rat.divInt a b))) (.fin (ctP f g (Rat.divInt a b))),ptR2,own_ok (K:=26) (ptL hf hg hs hc++sgR 69 hA.1++sgR 74 hA.2++[(sAxOne hA.1 hA.2).e]++sgR 37 hA.1++[(sCutYes hl hk h0 hn h ht).e,dIdxP PLT (ctK f g (Rat.divInt a b)),dPlace PLT (ctK f g (Rat.divInt a b)),(kToldP hP).e,.app appPt,dIdxP PLT (ctK f g (Rat.divInt a b)),dPlace PLT (ctK f g (Rat.divInt a b)),(kToldP hQ).e,.app appPt,(sSortP2 hP hQ hne hb).e]) [(2,6)] 1500 Tryz.func105 hmA (fun β=>by kernel_rfl) (by kernel_rfl) rfl (by kernel_rfl) (by kernel_rfl),by kernel_rfl⟩
noncomputable def oPtOneIn (hA:axAt f g .one) (hl:RSz KI f) (hk:RSz KI g) (h0:g.a≠0) (hn:cuN f≠0) {n d a b:Nat} (h:RootB (cuX f g) n d a b) (ht:decide (Rat.divInt a b*Rat.divInt a b=cuX f g)=true) (hP:FitP (.fin (ctP f g (Rat.divInt a b)))) (hQ:FitP (.fin (ctQ f g (Rat.divInt a b)))) (hne:ptB (.fin (ctQ f g (Rat.divInt a b))) (.fin (ctP f g (Rat.divInt a b)))=false) (hb:decide (ordI (.fin (ctQ f g (Rat.divInt a b))) (.fin (ctP f g (Rat.divInt a b)))<0)=false):OwnSp Tryz.prog :=
 ⟨105,Tryz.call105,rpA f g,pr2 (.fin (ctP f g (Rat.divInt a b))) (.fin (ctQ f g (Rat.divInt a b))),ptR2,own_ok (K:=26) (ptL hf hg hs hc++sgR 69 hA.1++sgR 74 hA.2++[(sAxOne hA.1 hA.2).e]++sgR 37 hA.1++[(sCutYes hl hk h0 hn h ht).e,dIdxP PLT (ctK f g (Rat.divInt a b)),dPlace PLT (ctK f g (Rat.divInt a b)),(kToldP hP).e,.app appPt,dIdxP PLT (ctK f g (Rat.divInt a b)),dPlace PLT (ctK f g (Rat.divInt a b)),(kToldP hQ).e,.app appPt,(sSortQ2 hP hQ hne hb).e]) [(2,6)] 1500 Tryz.func105 hmA (fun β=>by kernel_rfl) (by kernel_rfl) rfl (by kernel_rfl) (by kernel_rfl),by kernel_rfl⟩
noncomputable def sPtNoTwo (hA:axAt f g .two) (hl:RSz KI g) (hk:RSz KI f) (h0:f.a≠0) (hn:cuN g≠0) {n d a b:Nat} (h:RootB (cuX g f) n d a b) (ht:decide (Rat.divInt a b*Rat.divInt a b=cuX g f)=false):Spec Tryz.prog :=
 Spec.auto Tryz.call105 (rpA f g) [] (ptNil 230) [] (ptL hf hg hs hc++sgR 69 hA.1++[(sAxTwo hA.1 hA.2).e]++sgR 37 hA.1++[(sCutNo hl hk h0 hn h ht).e]) [(2,6)] 1500 Tryz.func105 hmA (by kernel_rfl) (fun β=>by kernel_rfl)
noncomputable def sPtBigATwo (hA:axAt f g .two) (hl:RSz KI g) (hk:RSz KI f) (h0:f.a≠0) (hn:cuN g≠0) {n d a b:Nat} (h:RootB (cuX g f) n d a b) (ht:decide (Rat.divInt a b*Rat.divInt a b=cuX g f)=true) (hP:¬ FitG (ctP g f (Rat.divInt a b))) (hz:GSz KB (ctP g f (Rat.divInt a b))):Spec Tryz.prog :=
 Spec.auto Tryz.call105 (rpA f g) [] (ptNil 4) [] (ptL hf hg hs hc++sgR 69 hA.1++[(sAxTwo hA.1 hA.2).e]++sgR 37 hA.1++[(sCutYes hl hk h0 hn h ht).e,dIdxP PLT (ctK g f (Rat.divInt a b)),dPlace PLT (ctK g f (Rat.divInt a b)),(sToldNo hP hz).e]) [(2,6)] 1500 Tryz.func105 hmA (by kernel_rfl) (fun β=>by kernel_rfl)
noncomputable def sPtBigBTwo (hA:axAt f g .two) (hl:RSz KI g) (hk:RSz KI f) (h0:f.a≠0) (hn:cuN g≠0) {n d a b:Nat} (h:RootB (cuX g f) n d a b) (ht:decide (Rat.divInt a b*Rat.divInt a b=cuX g f)=true) (hP:FitP (.fin (ctP g f (Rat.divInt a b)))) (hQ:¬ FitG (ctQ g f (Rat.divInt a b))) (hz:GSz KB (ctQ g f (Rat.divInt a b))):Spec Tryz.prog :=
 Spec.auto Tryz.call105 (rpA f g) [] (ptNil 4) [] (ptL hf hg hs hc++sgR 69 hA.1++[(sAxTwo hA.1 hA.2).e]++sgR 37 hA.1++[(sCutYes hl hk h0 hn h ht).e,dIdxP PLT (ctK g f (Rat.divInt a b)),dPlace PLT (ctK g f (Rat.divInt a b)),(kToldP hP).e,.app appPt,dIdxP PLT (ctK g f (Rat.divInt a b)),dPlace PLT (ctK g f (Rat.divInt a b)),(sToldNo hQ hz).e]) [(2,6)] 1500 Tryz.func105 hmA (by kernel_rfl) (fun β=>by kernel_rfl)
noncomputable def oPtTwoSw (hA:axAt f g .two) (hl:RSz KI g) (hk:RSz KI f) (h0:f.a≠0) (hn:cuN g≠0) {n d a b:Nat} (h:RootB (cuX g f) n d a b) (ht:decide (Rat.divInt a b*Rat.divInt a b=cuX g f)=true) (hP:FitP (.fin (ctP g f (Rat.divInt a b)))) (hQ:FitP (.fin (ctQ g f (Rat.divInt a b)))) (hne:ptB (.fin (ctQ g f (Rat.divInt a b))) (.fin (ctP g f (Rat.divInt a b)))=false) (hb:decide (ordI (.fin (ctQ g f (Rat.divInt a b))) (.fin (ctP g f (Rat.divInt a b)))<0)=true):OwnSp Tryz.prog :=
 ⟨105,Tryz.call105,rpA f g,pr2 (.fin (ctQ g f (Rat.divInt a b))) (.fin (ctP g f (Rat.divInt a b))),ptR2,own_ok (K:=26) (ptL hf hg hs hc++sgR 69 hA.1++[(sAxTwo hA.1 hA.2).e]++sgR 37 hA.1++[(sCutYes hl hk h0 hn h ht).e,dIdxP PLT (ctK g f (Rat.divInt a b)),dPlace PLT (ctK g f (Rat.divInt a b)),(kToldP hP).e,.app appPt,dIdxP PLT (ctK g f (Rat.divInt a b)),dPlace PLT (ctK g f (Rat.divInt a b)),(kToldP hQ).e,.app appPt,(sSortP2 hP hQ hne hb).e]) [(2,6)] 1500 Tryz.func105 hmA (fun β=>by kernel_rfl) (by kernel_rfl) rfl (by kernel_rfl) (by kernel_rfl),by kernel_rfl⟩
noncomputable def oPtTwoIn (hA:axAt f g .two) (hl:RSz KI g) (hk:RSz KI f) (h0:f.a≠0) (hn:cuN g≠0) {n d a b:Nat} (h:RootB (cuX g f) n d a b) (ht:decide (Rat.divInt a b*Rat.divInt a b=cuX g f)=true) (hP:FitP (.fin (ctP g f (Rat.divInt a b)))) (hQ:FitP (.fin (ctQ g f (Rat.divInt a b)))) (hne:ptB (.fin (ctQ g f (Rat.divInt a b))) (.fin (ctP g f (Rat.divInt a b)))=false) (hb:decide (ordI (.fin (ctQ g f (Rat.divInt a b))) (.fin (ctP g f (Rat.divInt a b)))<0)=false):OwnSp Tryz.prog :=
 ⟨105,Tryz.call105,rpA f g,pr2 (.fin (ctP g f (Rat.divInt a b))) (.fin (ctQ g f (Rat.divInt a b))),ptR2,own_ok (K:=26) (ptL hf hg hs hc++sgR 69 hA.1++[(sAxTwo hA.1 hA.2).e]++sgR 37 hA.1++[(sCutYes hl hk h0 hn h ht).e,dIdxP PLT (ctK g f (Rat.divInt a b)),dPlace PLT (ctK g f (Rat.divInt a b)),(kToldP hP).e,.app appPt,dIdxP PLT (ctK g f (Rat.divInt a b)),dPlace PLT (ctK g f (Rat.divInt a b)),(kToldP hQ).e,.app appPt,(sSortQ2 hP hQ hne hb).e]) [(2,6)] 1500 Tryz.func105 hmA (fun β=>by kernel_rfl) (by kernel_rfl) rfl (by kernel_rfl) (by kernel_rfl),by kernel_rfl⟩
noncomputable def sPtNoNone (hA:axAt f g .none) (hw:decide ((fpr (axQ f g) (axQ f g)).num.sign≤0)=false) (hl:RSz KI (axQ f g)) (hk:RSz KI f) (h0:f.a≠0) (hn:cuN (axQ f g)≠0) {n d a b:Nat} (h:RootB (cuX (axQ f g) f) n d a b) (ht:decide (Rat.divInt a b*Rat.divInt a b=cuX (axQ f g) f)=false):Spec Tryz.prog :=
 Spec.auto Tryz.call105 (rpA f g) [] (ptNil 230) [] (ptL hf hg hs hc++sgR 69 hA.1++[(sAxNone hf hg hA.1 hA.2 hw).e]++sgR 37 hA.1++[(sCutNo hl hk h0 hn h ht).e]) [(2,6)] 1500 Tryz.func105 hmA (by kernel_rfl) (fun β=>by kernel_rfl)
noncomputable def sPtBigANone (hA:axAt f g .none) (hw:decide ((fpr (axQ f g) (axQ f g)).num.sign≤0)=false) (hl:RSz KI (axQ f g)) (hk:RSz KI f) (h0:f.a≠0) (hn:cuN (axQ f g)≠0) {n d a b:Nat} (h:RootB (cuX (axQ f g) f) n d a b) (ht:decide (Rat.divInt a b*Rat.divInt a b=cuX (axQ f g) f)=true) (hP:¬ FitG (ctP (axQ f g) f (Rat.divInt a b))) (hz:GSz KB (ctP (axQ f g) f (Rat.divInt a b))):Spec Tryz.prog :=
 Spec.auto Tryz.call105 (rpA f g) [] (ptNil 4) [] (ptL hf hg hs hc++sgR 69 hA.1++[(sAxNone hf hg hA.1 hA.2 hw).e]++sgR 37 hA.1++[(sCutYes hl hk h0 hn h ht).e,dIdxP PLT (ctK (axQ f g) f (Rat.divInt a b)),dPlace PLT (ctK (axQ f g) f (Rat.divInt a b)),(sToldNo hP hz).e]) [(2,6)] 1500 Tryz.func105 hmA (by kernel_rfl) (fun β=>by kernel_rfl)
noncomputable def sPtBigBNone (hA:axAt f g .none) (hw:decide ((fpr (axQ f g) (axQ f g)).num.sign≤0)=false) (hl:RSz KI (axQ f g)) (hk:RSz KI f) (h0:f.a≠0) (hn:cuN (axQ f g)≠0) {n d a b:Nat} (h:RootB (cuX (axQ f g) f) n d a b) (ht:decide (Rat.divInt a b*Rat.divInt a b=cuX (axQ f g) f)=true) (hP:FitP (.fin (ctP (axQ f g) f (Rat.divInt a b)))) (hQ:¬ FitG (ctQ (axQ f g) f (Rat.divInt a b))) (hz:GSz KB (ctQ (axQ f g) f (Rat.divInt a b))):Spec Tryz.prog :=
 Spec.auto Tryz.call105 (rpA f g) [] (ptNil 4) [] (ptL hf hg hs hc++sgR 69 hA.1++[(sAxNone hf hg hA.1 hA.2 hw).e]++sgR 37 hA.1++[(sCutYes hl hk h0 hn h ht).e,dIdxP PLT (ctK (axQ f g) f (Rat.divInt a b)),dPlace PLT (ctK (axQ f g) f (Rat.divInt a b)),(kToldP hP).e,.app appPt,dIdxP PLT (ctK (axQ f g) f (Rat.divInt a b)),dPlace PLT (ctK (axQ f g) f (Rat.divInt a b)),(sToldNo hQ hz).e]) [(2,6)] 1500 Tryz.func105 hmA (by kernel_rfl) (fun β=>by kernel_rfl)
noncomputable def oPtNoneSw (hA:axAt f g .none) (hw:decide ((fpr (axQ f g) (axQ f g)).num.sign≤0)=false) (hl:RSz KI (axQ f g)) (hk:RSz KI f) (h0:f.a≠0) (hn:cuN (axQ f g)≠0) {n d a b:Nat} (h:RootB (cuX (axQ f g) f) n d a b) (ht:decide (Rat.divInt a b*Rat.divInt a b=cuX (axQ f g) f)=true) (hP:FitP (.fin (ctP (axQ f g) f (Rat.divInt a b)))) (hQ:FitP (.fin (ctQ (axQ f g) f (Rat.divInt a b)))) (hne:ptB (.fin (ctQ (axQ f g) f (Rat.divInt a b))) (.fin (ctP (axQ f g) f (Rat.divInt a b)))=false) (hb:decide (ordI (.fin (ctQ (axQ f g) f (Rat.divInt a b))) (.fin (ctP (axQ f g) f (Rat.divInt a b)))<0)=true):OwnSp Tryz.prog :=
 ⟨105,Tryz.call105,rpA f g,pr2 (.fin (ctQ (axQ f g) f (Rat.divInt a b))) (.fin (ctP (axQ f g) f (Rat.divInt a b))),ptR2,own_ok (K:=30) (ptL hf hg hs hc++sgR 69 hA.1++[(sAxNone hf hg hA.1 hA.2 hw).e]++sgR 37 hA.1++[(sCutYes hl hk h0 hn h ht).e,dIdxP PLT (ctK (axQ f g) f (Rat.divInt a b)),dPlace PLT (ctK (axQ f g) f (Rat.divInt a b)),(kToldP hP).e,.app appPt,dIdxP PLT (ctK (axQ f g) f (Rat.divInt a b)),dPlace PLT (ctK (axQ f g) f (Rat.divInt a b)),(kToldP hQ).e,.app appPt,(sSortP2 hP hQ hne hb).e]) [(2,6)] 1500 Tryz.func105 hmA (fun β=>by kernel_rfl) (by kernel_rfl) rfl (by kernel_rfl) (by kernel_rfl),by kernel_rfl⟩
noncomputable def oPtNoneIn (hA:axAt f g .none) (hw:decide ((fpr (axQ f g) (axQ f g)).num.sign≤0)=false) (hl:RSz KI (axQ f g)) (hk:RSz KI f) (h0:f.a≠0) (hn:cuN (axQ f g)≠0) {n d a b:Nat} (h:RootB (cuX (axQ f g) f) n d a b) (ht:decide (Rat.divInt a b*Rat.divInt a b=cuX (axQ f g) f)=true) (hP:FitP (.fin (ctP (axQ f g) f (Rat.divInt a b)))) (hQ:FitP (.fin (ctQ (axQ f g) f (Rat.divInt a b)))) (hne:ptB (.fin (ctQ (axQ f g) f (Rat.divInt a b))) (.fin (ctP (axQ f g) f (Rat.divInt a b)))=false) (hb:decide (ordI (.fin (ctQ (axQ f g) f (Rat.divInt a b))) (.fin (ctP (axQ f g) f (Rat.divInt a b)))<0)=false):OwnSp Tryz.prog :=
 ⟨105,Tryz.call105,rpA f g,pr2 (.fin (ctP (axQ f g) f (Rat.divInt a b))) (.fin (ctQ (axQ f g) f (Rat.divInt a b))),ptR2,own_ok (K:=30) (ptL hf hg hs hc++sgR 69 hA.1++[(sAxNone hf hg hA.1 hA.2 hw).e]++sgR 37 hA.1++[(sCutYes hl hk h0 hn h ht).e,dIdxP PLT (ctK (axQ f g) f (Rat.divInt a b)),dPlace PLT (ctK (axQ f g) f (Rat.divInt a b)),(kToldP hP).e,.app appPt,dIdxP PLT (ctK (axQ f g) f (Rat.divInt a b)),dPlace PLT (ctK (axQ f g) f (Rat.divInt a b)),(kToldP hQ).e,.app appPt,(sSortQ2 hP hQ hne hb).e]) [(2,6)] 1500 Tryz.func105 hmA (fun β=>by kernel_rfl) (by kernel_rfl) rfl (by kernel_rfl) (by kernel_rfl),by kernel_rfl⟩
end
end
abbrev ValT (fn:FuncId) (f g:RQ) (res:SV):Prop:=∀ (β:Env) (w:World),(∀ (k:Nat) (t:Thing),([]:List Thing)[k]?=some t→t.D w (β k)) →
 Calls Tryz.prog fn ((rpA f g).map (SV.den β)).toArray w fun e w'=>∃ xs:List Pl,freshS β w 0 xs∧e=.returned (res.den (extE β 0 xs))∧newHold w' [] xs∧Below w.heap.size w w'
abbrev OwnT (fn:FuncId) (f g:RQ) (row:Ob) (res:SV):Prop:=∀ (β:Env) (w:World),
 Calls Tryz.prog fn ((rpA f g).map (SV.den β)).toArray w fun e w'=>∃ p:Pl,w.heap.size≤p.b∧e=.returned (res.den (fun _=>p))∧row.holds (fun _=>p) w' p∧Below w.heap.size w w'
abbrev ptsF:FuncId:=105
section
variable {f g:RQ}
def pNil {k:Int} (h:ValT ptsF f g (ptNil k)):Spec Tryz.prog:=⟨ptsF,Tryz.call105,rpA f g,[],ptNil k,[],h,by kernel_rfl⟩
def pOne {A:Pt} (h:OwnT ptsF f g (pr1 A) ptR1):OwnSp Tryz.prog:=⟨ptsF,Tryz.call105,rpA f g,pr1 A,ptR1,h,by kernel_rfl⟩
def pTwo {A B:Pt} (h:OwnT ptsF f g (pr2 A B) ptR2):OwnSp Tryz.prog:=⟨ptsF,Tryz.call105,rpA f g,pr2 A B,ptR2,h,by kernel_rfl⟩
end
theorem rb_szt {X:Rat} {n d a b:Nat} (h:RootB X n d a b) (hX:Sz 7173 X) (ht:Rat.divInt a b*Rat.divInt a b=X):Sz 7173 (Rat.divInt a b):=by
 obtain ⟨n1,n2⟩:=sq_num (Rat.divInt a b)
 rw [ht] at n1 n2
 have z1:(mag X.num.natAbs).size≤7173:=hX.1
 have z2:(mag (X.den:Int).natAbs).size≤7173:=hX.2
 rw [n1,Int.natAbs_mul] at z1
 rw [Int.natAbs_natCast,n2] at z2
 refine ⟨mag_mono (Nat.le_mul_self _) z1,?_⟩
 show (mag (((Rat.divInt a b).den:Int)).natAbs).size≤7173
 rw [Int.natAbs_natCast]
 exact mag_mono (Nat.le_mul_self _) z2
section
variable {f g:RQ} (hf:MayC f) (hg:MayC g) (sf:RSz 60 f) (sg:RSz 60 g) (hs:eqRone f g=false) (hc:cmpQ (fsq f g) one1 = -1)
include sf sg in
theorem ax60:RSz 123 (axQ f g):=(pls_sz sf sg (k:=1) (l:=1) (Sz.small (by decide)) (Sz.small (by decide))).mono (by decide)
theorem mpNum_pos {x:Rat}:0<x.num↔0<x:=by
 have h1:0≤x.num↔0≤x:=Rat.num_nonneg
 have h2:x.num=0↔x=0:=Rat.num_eq_zero
 constructor
 · intro h
   have h3:=h1.1 (by omega)
   have h4:x≠0:=fun e=>by have:=h2.2 e; omega
   grind
 · intro h
   have h3:=h1.2 (by grind)
   have h4:x.num≠0:=fun e=>by have:=h2.1 e; grind
   omega
theorem may_pos {f:RQ} (hf:MayC f):0<fpr f f:=by
 have h:=of_decide_eq_false hf.pow
 rw [← rpow_fpr] at h
 have h2:0<(fpr f f).num:=by
  rcases Int.lt_trichotomy (fpr f f).num 0 with e | e | e
  · rw [Int.sign_eq_neg_one_of_neg e] at h; omega
  · rw [e] at h; exact absurd (by decide) h
  · exact e
 exact mpNum_pos.1 h2
theorem may_a {f:RQ} (hf:MayC f) (h0:f.a≠0):f.a=1:=by
 have h:=congrArg RQ.a hf.one
 have e:rby f=f.a:=by
  unfold rby
  rw [decide_eq_false h0]
  rfl
 have h1:f.a*(rby f)⁻¹=f.a:=h
 rw [e,Rat.mul_inv_cancel _ h0] at h1
 exact h1.symm
end
theorem mpBig_no {k:Nat} {s:ByteArray} (h:big k s=false):s.size≤k:=by
 have:=of_decide_eq_false h
 omega
theorem mpSmB_sz {k:Nat} {x y:Rat} (h:smB k (fR x) (fR y)=true):Sz k x∧Sz k y:=by
 unfold smB at h
 simp only [Bool.not_eq_true',Bool.or_eq_false_iff] at h
 exact ⟨⟨mpBig_no h.1,by rw [sz_nat]; exact mpBig_no h.2.1⟩,⟨mpBig_no h.2.2.1,by rw [sz_nat]; exact mpBig_no h.2.2.2⟩⟩
theorem ct_parts (l k:RQ) (t:Rat):(ctP l k t).re=(rcQ k).re-l.b.re*(cuV l k/(cuN l*i21))+l.b.im*t∧(ctP l k t).im=(rcQ k).im+l.b.im*(cuV l k/(cuN l*i21))+l.b.re*t:=by
 unfold ctP cuF cuB
 rw [cen_eq,way_eq,gint01]
 unfold gadd gsub gscale gmul gconj
 constructor<;>(dsimp only; grind)
theorem ct_flip (l k:RQ) (t:Rat):ctQ l k t=ctP l k (-t):=by
 unfold ctQ ctP cuB gadd gsub gscale
 refine GQ.ext2 ?_ ?_<;>(dsimp only; grind)
theorem cutId1 {zr zi lr li lc q t N v:Rat} (hN:N=lr*lr+li*li) (hv:v=2*(zr*lr-zi*li)+lc) (hq:q*(N*2)=v):0*((zr-lr*q+li*t)*(zr-lr*q+li*t)+(zi+li*q+lr*t)*(zi+li*q+lr*t))+2*(lr*(zr-lr*q+li*t)-li*(zi+li*q+lr*t))+lc=0:=by grind
theorem cutId2 {a br bi c zr zi dr di D kk:Rat} (h1:zr*a = -br) (h2:zi*a=bi) (hk:kk=br*br+bi*bi-a*c) (hd:dr*dr+di*di=D) (hD:D*(a*a)=kk):(a*((zr+dr)*(zr+dr)+(zi+di)*(zi+di))+2*(br*(zr+dr)-bi*(zi+di))+c)*a=0:=by grind
theorem cutId3 {lr li q t N:Rat} (hN:N=lr*lr+li*li):(-(lr*q)+li*t)*(-(lr*q)+li*t)+(li*q+lr*t)*(li*q+lr*t)=N*(q*q)+N*(t*t):=by grind
theorem cut_onP {l k:RQ} (ha:l.a=0) (h0:k.a≠0) (hn:cuN l≠0) {t:Rat} (ht:t*t=cuX l k):valQ l (ctP l k t)=0∧valQ k (ctP l k t)=0:=by
 obtain ⟨p1,p2⟩:=ct_parts l k t
 obtain ⟨z1,z2⟩:=rc_a h0
 have hN:=cuN_eq l
 have hv:=cuV_eq l k
 have hq:cuV l k/(cuN l*i21)*(cuN l*2)=cuV l k:=by
  have:cuN l*i21≠0:=mul_ne hn i21_ne
  rw [← i21v,Rat.div_mul_cancel this]
 refine ⟨?_,?_⟩
 · rw [val_eq,p1,p2,ha]
   exact cutId1 hN hv hq
 · refine eq_of_mul h0 ?_
   rw [Rat.zero_mul,val_eq,p1,p2]
   have hk:fpr k k=k.b.re*k.b.re+k.b.im*k.b.im-k.a*k.c:=by have:=fpr_two k k; grind
   have hR:cuR k*(k.a*k.a)=fpr k k:=by unfold cuR; rw [Rat.div_mul_cancel (mul_ne h0 h0)]
   have hX:cuX l k*cuN l=cuR k-cuV l k*cuV l k/(cuN l*i41):=by unfold cuX; rw [Rat.div_mul_cancel hn]
   have hH:cuV l k*cuV l k/(cuN l*i41)*(cuN l*4)=cuV l k*cuV l k:=by
    have:cuN l*i41≠0:=mul_ne hn i41_ne
    rw [← i41v,Rat.div_mul_cancel this]
   generalize cuV l k/(cuN l*i21)=q at *
   generalize cuV l k*cuV l k/(cuN l*i41)=h at *
   have hh:h=cuN l*(q*q):=by
    refine eq_of_mul (z:=cuN l*4) (mul_ne hn (by decide)) ?_
    rw [hH,← hq]
    grind
   have hD:(cuN l*(q*q)+cuN l*(t*t))*(k.a*k.a)=fpr k k:=by
    rw [← hR,ht,← hh]
    grind
   have:=cutId2 z1 z2 hk (cutId3 (q:=q) (t:=t) hN) hD
   have e1:(rcQ k).re-l.b.re*q+l.b.im*t=(rcQ k).re+(-(l.b.re*q)+l.b.im*t):=by grind
   have e2:(rcQ k).im+l.b.im*q+l.b.re*t=(rcQ k).im+(l.b.im*q+l.b.re*t):=by grind
   rw [e1,e2]
   exact this
theorem cut_onQ {l k:RQ} (ha:l.a=0) (h0:k.a≠0) (hn:cuN l≠0) {t:Rat} (ht:t*t=cuX l k):valQ l (ctQ l k t)=0∧valQ k (ctQ l k t)=0:=by
 rw [ct_flip]
 exact cut_onP ha h0 hn (by rw [← ht]; grind)
def OnB (f g:RQ) (p:Pt):Prop:=sidQ f p=0∧sidQ g p=0
theorem ax_val (f g:RQ) (z:GQ):valQ (axQ f g) z=valQ f z-valQ g z:=by
 unfold axQ
 rw [val_pls,div11v,mdiv11v]
 grind
section
variable {f g:RQ} (hf:MayC f) (hg:MayC g) (hs:eqRone f g=false) (hc:cmpQ (fsq f g) one1=0)
include hf hg hc in
theorem tc_sq:fpr f g*fpr f g=fpr f f*fpr g g:=by
 have h:=cmpQ_zero.1 hc
 unfold fsq at h
 have h1:one1=1:=div11v
 rw [h1] at h
 have h2:=Rat.div_mul_cancel (a:=fpr f g*fpr f g) (mul_ne hf.ff hg.ff)
 rw [h] at h2
 grind
include hf hg hc in
theorem tc_0:fpr f (tcQ f g)=0∧fpr g (tcQ f g)=0∧fpr (tcQ f g) (tcQ f g)=0:=by
 have e:=tc_sq hf hg hc
 have hgf:=fpr_comm g f
 have h1:fpr f (tcQ f g)=0:=by unfold tcQ; rw [fpr_pls]; grind
 have h2:fpr g (tcQ f g)=0:=by unfold tcQ; rw [fpr_pls,hgf]; grind
 refine ⟨h1,h2,?_⟩
 rw [show fpr (tcQ f g) (tcQ f g)=fpr (tcQ f g) (pls f g (-(fpr f g)) (fpr f f)) from rfl,fpr_pls,fpr_comm (tcQ f g) f,fpr_comm (tcQ f g) g,h1,h2]
 grind
include hf hg hc in
theorem tc_fin (h0:(tcQ f g).a≠0):OnB f g (.fin (cenQ (tcQ f g))):=by
 obtain ⟨h1,h2,h3⟩:=tc_0 hf hg hc
 obtain ⟨z1,z2⟩:=rc_a h0
 have k1:=fpr_two f (tcQ f g)
 have k2:=fpr_two g (tcQ f g)
 have k3:=fpr_two (tcQ f g) (tcQ f g)
 rw [h1] at k1
 rw [h2] at k2
 rw [h3] at k3
 rw [cen_eq]
 generalize rcQ (tcQ f g)=z at *
 generalize tcQ f g=T at *
 refine ⟨?_,?_⟩
 · show valQ f z=0
   refine eq_of_mul (mul_ne h0 h0) ?_
   rw [val_eq]
   have e1:(f.a*(z.re*z.re+z.im*z.im)+2*(f.b.re*z.re-f.b.im*z.im)+f.c)*(T.a*T.a)=f.a*((z.re*T.a)*(z.re*T.a)+(z.im*T.a)*(z.im*T.a))+2*T.a*(f.b.re*(z.re*T.a)-f.b.im*(z.im*T.a))+f.c*T.a*T.a:=by grind
   rw [e1,z1,z2]
   grind
 · show valQ g z=0
   refine eq_of_mul (mul_ne h0 h0) ?_
   rw [val_eq]
   have e1:(g.a*(z.re*z.re+z.im*z.im)+2*(g.b.re*z.re-g.b.im*z.im)+g.c)*(T.a*T.a)=g.a*((z.re*T.a)*(z.re*T.a)+(z.im*T.a)*(z.im*T.a))+2*T.a*(g.b.re*(z.re*T.a)-g.b.im*(z.im*T.a))+g.c*T.a*T.a:=by grind
   rw [e1,z1,z2]
   grind
include hf hg hs hc in
theorem tc_inf (h0:(tcQ f g).a=0):OnB f g .inf:=by
 obtain ⟨h1,h2,h3⟩:=tc_0 hf hg hc
 have k1:=fpr_two f (tcQ f g)
 have k2:=fpr_two g (tcQ f g)
 have k3:=fpr_two (tcQ f g) (tcQ f g)
 rw [h1,h0] at k1
 rw [h2,h0] at k2
 rw [h3,h0] at k3
 have hb:(tcQ f g).b.re=0∧(tcQ f g).b.im=0:=sq_sum (by grind)
 by_cases hC:(tcQ f g).c=0
 · exfalso
   have t1 : -(fpr f g)*f.a+fpr f f*g.a=0:=h0
   have t2 : -(fpr f g)*f.b.re+fpr f f*g.b.re=0:=hb.1
   have t3 : -(fpr f g)*f.b.im+fpr f f*g.b.im=0:=hb.2
   have t4 : -(fpr f g)*f.c+fpr f f*g.c=0:=hC
   have hne:fpr f g≠0:=by
    intro e
    have:=tc_sq hf hg hc
    rw [e,Rat.mul_zero] at this
    exact mul_ne hf.ff hg.ff this.symm
   have hi:=Rat.mul_inv_cancel _ hf.ff
   have hz:fpr f g*(fpr f f)⁻¹≠0:=mul_ne hne (inv_ne hf.ff)
   have hfg:g=rnm f ((fpr f g*(fpr f f)⁻¹)⁻¹):=by
    unfold rnm gscale
    rw [Rat.inv_inv]
    generalize (fpr f f)⁻¹=i at *
    generalize fpr f g=x at *
    generalize fpr f f=y at *
    refine mvExt ?_ ?_ ?_ ?_<;>dsimp only<;>grind
   have:=hg.one
   rw [hfg,rone_rnm (inv_ne hz),hf.one] at this
   have e2:f=g:=by rw [hfg]; exact this
   rw [eqRone_iff.2 e2] at hs
   cases hs
 · have q:∀ x:Rat,x*(tcQ f g).c=0→x=0:=fun x h=>(Rat.mul_eq_zero.1 h).elim id fun h=>absurd h hC
   refine ⟨q _ ?_,q _ ?_⟩
   · show f.a*(tcQ f g).c=0
     rw [hb.1,hb.2] at k1
     grind
   · show g.a*(tcQ f g).c=0
     rw [hb.1,hb.2] at k2
     grind
end
theorem may_rone {r:RQ} (hr:RSz 512 r) (hw:wtB r=false):MayC (rone r):=by
 have hy:rby r≠0:=rby_ne hw
 have sz:RSz 1024 (rone r):=(rnm_sz hr (rby_sz hr _ _) hy).mono (by decide)
 refine ⟨⟨sz.a.fit (by decide),⟨sz.b.1.fit (by decide),sz.b.2.fit (by decide)⟩,sz.c.fit (by decide)⟩,?_,rone_rnm hy⟩
 have h1:rpow (rone r)=rpow r*((rby r)⁻¹*(rby r)⁻¹):=by
  rw [← rpow_fpr,← rpow_fpr]
  unfold rone
  rw [fpr_rnm,fpr_comm,fpr_rnm]
  grind
 have h2:0<rpow r:=by
  have h:=of_decide_eq_false hw
  have h2:0<(rpow r).num:=by
   rcases Int.lt_trichotomy (rpow r).num 0 with e | e | e
   · rw [Int.sign_eq_neg_one_of_neg e] at h; omega
   · rw [e] at h; exact absurd (by decide) h
   · exact e
  exact mpNum_pos.1 h2
 have h3:0<(rby r)⁻¹*(rby r)⁻¹:=by
  have h4:=sq_nonneg (rby r)⁻¹
  have h5:(rby r)⁻¹*(rby r)⁻¹≠0:=mul_ne (inv_ne hy) (inv_ne hy)
  grind
 have h4:0<(rpow (rone r)).num:=mpNum_pos.2 (by rw [h1]; exact Rat.mul_pos h2 h3)
 rw [Int.sign_eq_one_of_pos h4]
 rfl
section
variable {f g h:RQ} (hf:RSz 14 f) (hg:RSz 14 g) (hh:RSz 14 h)
include hf hg in
theorem ov14 (h0:fpr f f≠0):RSz 512 (ovQ f g):=(pls_sz hg hf one_szH (div_sz (two_sz.mul (fpr_sz hf hg)) (fpr_sz hf hf) h0)).mono (by decide)
include hf hg in
theorem mix14 {s t:Rat} (hs:Sz 14 s) (ht:Sz 14 t):RSz 512 (pls f g s t):=(pls_sz hf hg hs ht).mono (by decide)
theorem up14 {f:RQ} (hf:RSz 14 f):RSz 22 (upQ f):=⟨(div_sz hf.c two_sz m2_ne).mono (by decide),hf.b.mono (by decide),(div_sz hf.a two_sz m2_ne).mono (by decide)⟩
theorem mt22 {f g h:RQ} (hf:RSz 22 f) (hg:RSz 22 g) (hh:RSz 22 h) (i a b:Nat):Sz 111 (mt f g h i a b):=((col_sz hf i).mul (((col_sz hg a).mul (col_sz hh b)).sub ((col_sz hg b).mul (col_sz hh a)))).mono (by decide)
theorem mn22 {f g h:RQ} (hf:RSz 22 f) (hg:RSz 22 g) (hh:RSz 22 h) (a b c:Nat):Sz 345 (mn 0 f g h a b c):=by
 have:=(((sz_zero.add (mt22 hf hg hh a b c)).add (mt22 hf hg hh b c a)).add (mt22 hf hg hh c a b)).mono (k:=345) (by decide)
 exact this
include hf hg hh in
theorem ac14:RSz 512 (acQ f g h):=by
 have a:=up14 hf
 have b:=up14 hg
 have c:=up14 hh
 exact ⟨(mn22 a b c 1 2 3).mono (by decide),⟨(mn22 a b c 0 2 3).neg.mono (by decide),(mn22 a b c 0 1 3).mono (by decide)⟩,(mn22 a b c 0 1 2).neg.mono (by decide)⟩
end
end Go.Proofs.YtpccljaooghafaaGreat.Y
end
