/- G2, MtH, GsE, MtI, MtJ, SyC, MtM, MtN, MtO, MtQ, MpM. -/
import Derived.Test.YtpccljaooghafaaGreatPk12
set_option linter.unnecessarySimpa false
set_option linter.unusedVariables false
set_option linter.unusedSimpArgs false
section
namespace Go.Proofs.YtpccljaooghafaaGreat.Y
open Go Go.RowKit
set_option maxRecDepth 100000
def sFrat {x:Rat} (h:Fit x):Spec Tryz.prog :=
 ⟨129,Tryz.call129,[.one (.a (fC x))],[],.one (.c (.b (.z 0 0))),[ratT x],fun β w hh=>by
  obtain ⟨y,hp⟩:=parts_of (fitF x h)
  obtain rfl:x=y:=fracV_inj hp.val
  exact (rat_frac hp).mono fun e w' ⟨g,he,h1,h2,h3⟩=>⟨[newPl g],fun y hy c hc=>by
   obtain rfl:=List.mem_singleton.1 hy
   rw [((newPl_one g).1 c).1 hc]
   exact .inl h1,by rw [he]; exact congrArg Ending.returned (extE_z β 0 0 (newPl g)).symm,⟨⟨g,(newPl_one g).at1,h2⟩,trivial⟩,h3⟩,by kernel_rfl⟩
def sFCmp {x y:Rat} (hx:Fit x) (hy:Fit y):Spec Tryz.prog :=
 Spec.auto Tryz.call126 [.one (.a (fC x)),.one (.a (fC y))] [] (.tup [svI (cmpQ x y),nI' 0]) []
  [eMayF x hx,eMayF y hy,(sFrat hx).e,(sFrat hy).e,nCmp (hx.sz.mono (by decide)) (hy.sz.mono (by decide)) rfl] [(3,7)] 400 Tryz.func126 hmA (by kernel_rfl) (fun β=>by kernel_rfl)
def cmpG (r:Bool) (z w:GQ):Int:=bif r then cmpQ z.re w.re else cmpQ z.im w.im
theorem ne_lit {a:Int} {r:Bool} (h:(!(a==0))=r):Value.bool (!(a==0))=.bool r:=by rw [h]
noncomputable def sGCmp {z w:GQ} (hz:FitG z) (hw:FitG w) {r s:Bool} (hr:(!(cmpQ z.re w.re==0))=r) (hs:(!(cmpQ z.im w.im==0))=s):Spec Tryz.prog :=
 ⟨326,Tryz.call326,[gS z,gS w],[],.tup [svI (cmpG r z w),nI' 0],[],fun β w' hh=>by
  cases r with
  | true=>exact spec_auto (evs:=[(sGM (gpX z hz) (r:=true) rfl).e,(sGM (gpX w hw) (r:=true) rfl).e,(sFCmp hz.1 hw.1).e,.eqv 41 (.bool (!(cmpQ z.re w.re==0))) (.bool true) (ne_lit hr)]) (Ns:=[]) (m:=800) Tryz.func326 hmA (fun β=>by kernel_rfl) (by kernel_rfl) β w' hh
  | false=>cases s with
   | true=>exact spec_auto (evs:=[(sGM (gpX z hz) (r:=true) rfl).e,(sGM (gpX w hw) (r:=true) rfl).e,(sFCmp hz.1 hw.1).e,.eqv 41 (.bool (!(cmpQ z.re w.re==0))) (.bool false) (ne_lit hr),(sFCmp hz.2 hw.2).e,.eqv 41 (.bool (!(cmpQ z.im w.im==0))) (.bool true) (ne_lit hs)]) (Ns:=[]) (m:=800) Tryz.func326 hmA (fun β=>by kernel_rfl) (by kernel_rfl) β w' hh
   | false =>
    have e:cmpG false z w=0:=by
     show cmpQ z.im w.im=0
     rwa [Bool.not_eq_false',beq_iff_eq] at hs
    rw [e]
    exact spec_auto (evs:=[(sGM (gpX z hz) (r:=true) rfl).e,(sGM (gpX w hw) (r:=true) rfl).e,(sFCmp hz.1 hw.1).e,.eqv 41 (.bool (!(cmpQ z.re w.re==0))) (.bool false) (ne_lit hr),(sFCmp hz.2 hw.2).e,.eqv 41 (.bool (!(cmpQ z.im w.im==0))) (.bool false) (ne_lit hs)]) (Ns:=[]) (m:=800) Tryz.func326 hmA (fun β=>by kernel_rfl) (by kernel_rfl) β w' hh,by kernel_rfl⟩
def smE (k:Nat) (x y:R4) (a b c d:Bool) (ha:big k x.s=a) (hb:big k x.t=b) (hc:big k y.s=c) (hd:big k y.t=d):List (Ev Tryz.prog) :=
 evBig k x.s 23 a ha::bif a then [] else evBig k x.t 31 b hb::bif b then [] else evBig k y.s 40 c hc::bif c then [] else [evBig k y.t 49 d hd]
theorem small42_ok (k:Nat) (x y x' y':R4) {r:Bool} (hr:(smB k x y&&smB k x' y')=r) (β:Env) (w:World) (hh:(Ob.box (x.L++y.L++x'.L++y'.L) 49).holds β w (β 0)) :
  Calls Tryz.prog 67 (([.one (.c (.b (.v (.int .i64 (k:Int))))),.one (.c (.b (.s 0 0 2 2)))]:List SV).map (SV.den β)).toArray w fun e w'=>e=.returned (.bool r)∧Below w.heap.size w w':=by
 unfold smB at hr
 have fin:∀ {a b c d:Bool} (ha:big k x.s=a) (hb:big k x.t=b) (hc:big k y.s=c) (hd:big k y.t=d) {a' b' c' d':Bool} (ha':big k x'.s=a') (hb':big k x'.t=b') (hc':big k y'.s=c') (hd':big k y'.t=d'),
   Calls Tryz.prog 67 (([.one (.c (.b (.v (.int .i64 (k:Int))))),.one (.c (.b (.s 0 0 2 2)))]:List SV).map (SV.den β)).toArray w fun e w'=>e=.returned (.bool (!(a||(b||(c||d)))&&!(a'||(b'||(c'||d')))))∧Below w.heap.size w w':=by
  intro a b c d ha hb hc hd a' b' c' d' ha' hb' hc' hd'
  cases a
  · cases b
    · cases c
      · cases d
        · cases a'
          · cases b'
            · cases c'
              · cases d'<;>exact bspec_ok (smE k x y _ _ _ _ ha hb hc hd++smE k x' y' _ _ _ _ ha' hb' hc' hd') [] 1200 Tryz.func67 hmA (fun β=>by kernel_rfl) (by kernel_rfl) (fun β=>rfl) β w hh
              · exact bspec_ok (smE k x y _ _ _ _ ha hb hc hd++smE k x' y' _ _ _ _ ha' hb' hc' hd') [] 1200 Tryz.func67 hmA (fun β=>by kernel_rfl) (by kernel_rfl) (fun β=>rfl) β w hh
            · exact bspec_ok (smE k x y _ _ _ _ ha hb hc hd++smE k x' y' _ _ _ _ ha' hb' hc' hd') [] 1200 Tryz.func67 hmA (fun β=>by kernel_rfl) (by kernel_rfl) (fun β=>rfl) β w hh
          · exact bspec_ok (smE k x y _ _ _ _ ha hb hc hd++smE k x' y' _ _ _ _ ha' hb' hc' hd') [] 1200 Tryz.func67 hmA (fun β=>by kernel_rfl) (by kernel_rfl) (fun β=>rfl) β w hh
        · exact bspec_ok (smE k x y _ _ _ _ ha hb hc hd) [] 1200 Tryz.func67 hmA (fun β=>by kernel_rfl) (by kernel_rfl) (fun β=>rfl) β w hh
      · exact bspec_ok (smE k x y _ _ _ _ ha hb hc hd) [] 1200 Tryz.func67 hmA (fun β=>by kernel_rfl) (by kernel_rfl) (fun β=>rfl) β w hh
    · exact bspec_ok (smE k x y _ _ _ _ ha hb hc hd) [] 1200 Tryz.func67 hmA (fun β=>by kernel_rfl) (by kernel_rfl) (fun β=>rfl) β w hh
  · exact bspec_ok (smE k x y _ _ _ _ ha hb hc hd) [] 1200 Tryz.func67 hmA (fun β=>by kernel_rfl) (by kernel_rfl) (fun β=>rfl) β w hh
 have:=fin (a:=big k x.s) rfl rfl rfl rfl (a':=big k x'.s) rfl rfl rfl rfl
 rw [hr] at this
 exact this
def sR4Small2 (k:Nat) (x y x' y':R4) {b:Bool} (hb:(smB k x y&&smB k x' y')=b):BSpec Tryz.prog :=
 ⟨67,Tryz.call67,[.one (.c (.b (.v (.int .i64 (k:Int))))),.one (.c (.b (.s 0 0 2 2)))],x.L++y.L++x'.L++y'.L,49,.bool b,small42_ok k x y x' y' hb,by kernel_rfl,fun _=>rfl⟩
structure RSpec (P:Program) where
 f:FuncId
 en:Enters P f
 args:List SV
 src:Ob
 res:SV
 ok:∀ β w,src.holds β w (β 0)→Calls P f (args.map (SV.den β)).toArray w fun e w'=>e=.returned (res.den β)∧Below w.heap.size w w'
 cl:(src.of (fun _=>false)&&(args.all (SV.of fun k=>Nat.beq k 0)&&res.of fun k=>Nat.beq k 0))=true
def bkOfR:List SV→Nat
 | []=>0
 | .one (.c (.b (.r k _)))::_=>k
 | _::r=>bkOfR r
def RSpec.e {P:Program} (S:RSpec P):Ev P:=.dyn (fun o _ _=>isCallB o) fun _ xs ob=>lit (bkOfR xs) fun i=>lit ob.length fun n =>
 .call S.f S.en (fun β=>(S.args.map (SV.den fun _=>β i)).toArray) [(i,S.src)] n (S.res.ren fun _=>i) [] (fun β w h=>by
  have hc:=S.cl
  simp only [Bool.and_eq_true] at hc
  obtain ⟨c1,c2,c3⟩:=hc
  have h1:S.src.holds β w (β i):=h _ (List.mem_singleton.2 rfl)
  refine (S.ok (fun _=>β i) w (Ob.holds_congr (q:=fun _=>false) (fun k hk=>by cases hk) _ c1 h1)).mono fun e w' ⟨k1,k2⟩=>⟨[],(fun _ h=>by cases h),?_,trivial,k2⟩
  rw [k1,extE_nil,SV.den_ren])
theorem rspec_ok {P:Program} {f:FuncId} {fn:Func} {args:List SV} {src:Ob} {res:SV} (evs:List (Ev P)) (Ns:List (Nat × Nat)) (m:Nat) (hf:P.funcs[f]?=some fn) (hm:P.follows .mixedOrders=true)
  (h:∀ β,(allS P fn args [src] evs Ns m res [] β).map Prod.fst=(allS P fn args [src] evs Ns m res [] β).map Prod.snd)
  (hB:(args.all (SV.of fun k=>Nat.blt k 1)&&[src].all fun x=>x.of (fun k=>Nat.blt k 1)&&x.own)=true) (hr:(res.of fun k=>Nat.beq k 0)=true) (β:Env) (w:World) (hh:src.holds β w (β 0)) :
  Calls P f (args.map (SV.den β)).toArray w fun e w'=>e=.returned (res.den β)∧Below w.heap.size w w':=by
 rw [Bool.and_eq_true] at hB
 refine (sx (P:=P) args [src] evs Ns m res [] hf hm (fun β=>ok_of_maps (h β)) hB.1 hB.2 β w (fun k o ho=>?_)).mono ?_
 · cases k with
   | zero=>simp only [List.getElem?_cons_zero] at ho; obtain rfl:=Option.some.inj ho; exact hh
   | succ k=>simp at ho
 · rintro e w' ⟨β',q,obj,e1,rfl,_,_,_,g⟩
   refine ⟨?_,g.bel⟩
   rw [SV.den_congr (β:=β') (β':=β) (q:=fun k=>Nat.beq k 0) (fun k hk=>by have:=Nat.eq_of_beq_eq_true hk; subst this; exact e1 0 (Nat.zero_lt_one)) res hr]
def RSpec.auto {P:Program} {f:FuncId} {fn:Func} (en:Enters P f) (args:List SV) (src:Ob) (res:SV) (evs:List (Ev P)) (Ns:List (Nat × Nat)) (m:Nat) (hf:P.funcs[f]?=some fn) (hm:P.follows .mixedOrders=true)
  (hB:(args.all (SV.of fun k=>Nat.blt k 1)&&[src].all fun x=>x.of (fun k=>Nat.blt k 1)&&x.own)=true) (hr:(res.of fun k=>Nat.beq k 0)=true)
  (cl:(src.of (fun _=>false)&&(args.all (SV.of fun k=>Nat.beq k 0)&&res.of fun k=>Nat.beq k 0))=true)
  (h:∀ β,(allS P fn args [src] evs Ns m res [] β).map Prod.fst=(allS P fn args [src] evs Ns m res [] β).map Prod.snd):RSpec P :=
 ⟨f,en,args,src,res,rspec_ok evs Ns m hf hm h hB hr,cl⟩
theorem mrow_ok {P:Program} {f:FuncId} {fn:Func} {args:List SV} {cs ds:List Lf} {t:TypeId} {n sz:Nat} (evs:List (Ev P)) (Ns:List (Nat × Nat)) (m:Nat) (hf:P.funcs[f]?=some fn) (hm:P.follows .mixedOrders=true)
  (h:∀ β,(allM P 0 fn args [.row cs t n sz] evs Ns m (.tup []) [(0,.row ds t n sz)] β).map Prod.fst=(allM P 0 fn args [.row cs t n sz] evs Ns m (.tup []) [(0,.row ds t n sz)] β).map Prod.snd)
  (hB:(args.all (SV.of fun k=>Nat.blt k 1)&&[Ob.row cs t n sz].all fun x=>x.of (fun k=>Nat.blt k 1)&&x.own)=true) (hd:(Ob.row ds t n sz).of (fun _=>false)=true) (β:Env) (w:World)
  (hh:∀ (k:Nat) (t:Thing),([]:List Thing)[k]?=some t→t.D w (β k)) (ha:(Ob.row cs t n sz).holds β w (β 0)) :
  Calls P f (args.map (SV.den β)).toArray w fun e w'=>∃ xs:List Pl,freshS β w 0 xs∧e=.returned ((SV.tup []).den (extE β 1 xs))∧newHold w' [] xs∧(Ob.row ds t n sz).holds (extE β 1 xs) w' (β 0)∧TouchL w w' [(β 0).b]:=by
 rw [Bool.and_eq_true] at hB
 refine (sxM (P:=P) 0 args [.row cs t n sz] evs Ns m (.tup []) [(0,.row ds t n sz)] hf hm (fun β=>ok_of_maps (h β)) (Nat.zero_le _) hB.1 hB.2 (fun k k1 k2=>?_) (fun k k1 k2=>?_) β w (fun k o ho=>?_) (fun k j k1 k2 k3 k4=>?_)).mono ?_
 · obtain rfl:k=0:=by simp only [List.length_singleton] at k2; omega
   rfl
 · obtain rfl:k=0:=by simp only [List.length_singleton] at k2; omega
   exact ⟨_,_,List.mem_cons_self ..,rfl⟩
 · cases k with
   | zero=>simp only [List.getElem?_cons_zero] at ho; obtain rfl:=Option.some.inj ho; exact ha
   | succ k=>simp at ho
 · simp only [List.length_singleton] at k2 k3
   omega
 · rintro e u ⟨β',q,e1,rfl,e3,e4,e5,e6⟩
   have b0:β' 0=β 0:=e1 0 (by show 0<1; decide)
   have h5:=e5 _ (List.mem_cons_self ..)
   refine ⟨[],(fun _ h=>by cases h),rfl,trivial,?_,⟨e6.os,e6.tape,e6.output,e6.size,fun k hk hne=>e6.block k hk fun ⟨i,i1,i2,hS⟩=>?_⟩⟩
   · dsimp only at h5
     rw [b0] at h5
     exact Ob.holds_congr (q:=fun _=>false) (fun k hk=>by cases hk) _ hd h5
   · obtain rfl:i=0:=by simp only [List.length_singleton] at i2; omega
     exact hne (by rw [hS]; exact List.mem_singleton.2 rfl)
abbrev PTT:TypeId:=51
abbrev pw (p:Pt):List Lf:=rawC p.i p.x p.y
abbrev pr2 (p q:Pt):Ob:=.row (pw p++pw q) PTT 2 9
abbrev r2V:SV:=.one (.c (.b (.r 0 2)))
def sChk1 {p:Pt} (hp:FitP p):Spec Tryz.prog :=
 ⟨325,Tryz.call325,[svP p],[],.one (.c (.b (.v (.bool false)))),[],fun β w hh=>by
  cases p
  · exact spec_auto (args:=[svP .inf]) (obs:=[]) (evs:=[(sPMay (ppt .inf hp)).e]) (Ns:=[]) (m:=400) Tryz.func325 hmA (fun β=>by kernel_rfl) (by kernel_rfl) β w hh
  · rename_i z
    exact spec_auto (args:=[svP (.fin z)]) (obs:=[]) (evs:=[(sPMay (ppt (.fin z) hp)).e]) (Ns:=[]) (m:=400) Tryz.func325 hmA (fun β=>by kernel_rfl) (by kernel_rfl) β w hh,by cases p<;>kernel_rfl⟩
noncomputable def sPIdx2 {p q:Pt} (hp:FitP p) (hq:FitP q):RSpec Tryz.prog :=
 RSpec.auto Tryz.call340 [r2V,fvV 325] (pr2 p q) (.one (svI (-1))) [(sChk1 hp).e,(sChk1 hq).e] [] 800 Tryz.func340 hmA (by kernel_rfl) (by kernel_rfl) (by kernel_rfl) (fun β=>by kernel_rfl)
noncomputable def sPHas2 {p q:Pt} (hp:FitP p) (hq:FitP q):RSpec Tryz.prog :=
 RSpec.auto Tryz.call219 [r2V,fvV 325] (pr2 p q) (.one (.c (.b (.v (.bool false))))) [(sPIdx2 hp hq).e] [] 400 Tryz.func219 hmA (by kernel_rfl) (by kernel_rfl) (by kernel_rfl) (fun β=>by kernel_rfl)
noncomputable def sPCheck2 {p q:Pt} (hp:FitP p) (hq:FitP q):RSpec Tryz.prog :=
 RSpec.auto Tryz.call166 [r2V] (pr2 p q) (.one (svI 0)) [(sPHas2 hp hq).e] [] 400 Tryz.func166 hmA (by kernel_rfl) (by kernel_rfl) (by kernel_rfl) (fun β=>by kernel_rfl)
noncomputable def ordI:Pt→Pt→Int
 | .inf,.inf=>0
 | .inf,_=>1
 | _,.inf=>-1
 | .fin z,.fin w=>cmpG (!(cmpQ z.re w.re==0)) z w
noncomputable def sOrder {p q:Pt} (hp:FitP p) (hq:FitP q):Spec Tryz.prog :=
 ⟨167,Tryz.call167,[svP p,svP q],[],.one (svI (ordI p q)),[],fun β w hh=>by
  cases p<;>cases q
  · exact spec_auto (args:=[svP .inf,svP .inf]) (obs:=[]) (evs:=[]) (Ns:=[]) (m:=800) Tryz.func167 hmA (fun β=>by kernel_rfl) (by kernel_rfl) β w hh
  · rename_i z
    exact spec_auto (args:=[svP .inf,svP (.fin z)]) (obs:=[]) (evs:=[]) (Ns:=[]) (m:=800) Tryz.func167 hmA (fun β=>by kernel_rfl) (by kernel_rfl) β w hh
  · rename_i z
    exact spec_auto (args:=[svP (.fin z),svP .inf]) (obs:=[]) (evs:=[]) (Ns:=[]) (m:=800) Tryz.func167 hmA (fun β=>by kernel_rfl) (by kernel_rfl) β w hh
  · rename_i z u
    exact spec_auto (args:=[svP (.fin z),svP (.fin u)]) (obs:=[]) (evs:=[(sGCmp (z:=z) (w:=u) hp hq rfl rfl).e]) (Ns:=[]) (m:=800) Tryz.func167 hmA (fun β=>by kernel_rfl) (by kernel_rfl) β w hh,by cases p<;>cases q<;>kernel_rfl⟩
theorem lss_lit {n:Int} {b:Bool} (h:decide (n<0)=b):Value.bool (decide (n<0))=.bool b:=by rw [h]
section
variable {p q:Pt} (hp:FitP p) (hq:FitP q)
noncomputable def insE {b:Bool} (h:decide (ordI q p<0)=b):List (Ev Tryz.prog):=[(sOrder hq hp).e,.eqv 33 (.bool (decide (ordI q p<0))) (.bool b) (lss_lit h)]
noncomputable def sInsNo (h:decide (ordI q p<0)=false):MSpec Tryz.prog :=
 ⟨418,Tryz.call418,[r2V,.one (svI 0),.one (svI 2),fvV 167],[],pr2 p q,pr2 p q,.tup [],[],
  mrow_ok (insE hp hq h) [(4,17),(6,1015016)] 800 Tryz.func418 hmA (fun β=>by kernel_rfl) (by kernel_rfl) (by kernel_rfl),by kernel_rfl⟩
noncomputable def sInsYes (h:decide (ordI q p<0)=true):MSpec Tryz.prog :=
 ⟨418,Tryz.call418,[r2V,.one (svI 0),.one (svI 2),fvV 167],[],pr2 p q,pr2 q p,.tup [],[],
  mrow_ok (insE hp hq h) [(4,17),(6,1015016)] 800 Tryz.func418 hmA (fun β=>by kernel_rfl) (by kernel_rfl) (by kernel_rfl),by kernel_rfl⟩
end
structure RRow (P:Program) where
 f:FuncId
 en:Enters P f
 args:List SV
 src:Ob
 row:Ob
 res:SV
 ok:∀ β w,src.holds β w (β 0)→Calls P f (args.map (SV.den β)).toArray w fun e w'=>∃ g:Pl,w.heap.size≤g.b∧e=.returned (res.den (fun _=>g))∧row.holds (fun _=>g) w' g∧Below w.heap.size w w'
 cl:(src.of (fun _=>false)&&(row.of (fun _=>false)&&(args.all (SV.of fun k=>Nat.beq k 0)&&res.of fun k=>Nat.beq k 0)))=true
def RRow.e {P:Program} (S:RRow P):Ev P:=.dyn (fun o _ _=>isCallB o) fun _ xs ob=>lit (bkOfR xs) fun i=>lit ob.length fun n =>
 .own S.f S.en (fun β=>(S.args.map (SV.den fun _=>β i)).toArray) [(i,S.src)] n S.row (S.res.ren fun _=>n) [] (fun β w h=>by
  have hc:=S.cl
  simp only [Bool.and_eq_true] at hc
  obtain ⟨c1,c2,c3,c4⟩:=hc
  have h1:S.src.holds β w (β i):=h _ (List.mem_singleton.2 rfl)
  refine (S.ok (fun _=>β i) w (Ob.holds_congr (q:=fun _=>false) (fun k hk=>by cases hk) _ c1 h1)).mono ?_
  rintro e w' ⟨g,k1,rfl,k3,k4⟩
  have hg:extE β n [g] n=g:=extE_in (i:=0) (xs:=[g]) rfl
  refine ⟨g,[],⟨k1,(fun _ h=>by cases h),(fun _ h=>by cases h)⟩,?_,Ob.holds_congr (q:=fun _=>false) (fun k hk=>by cases hk) _ c2 k3,trivial,k4⟩
  rw [SV.den_ren]
  congr 1
  exact SV.den_congr (q:=fun k=>Nat.beq k 0) (fun k _=>hg.symm) _ c4)
theorem rrow_ok {P:Program} {f:FuncId} {fn:Func} {args:List SV} {src:Ob} {cs:List Lf} {t:TypeId} {n sz N:Nat} (evs:List (Ev P)) (Ns:List (Nat × Nat)) (m:Nat) (hf:P.funcs[f]?=some fn) (hm:P.follows .mixedOrders=true)
  (h:∀ β,(allS P fn args [src] evs Ns m (.one (.c (.b (.r N n)))) [(N,.row cs t n sz)] β).map Prod.fst=(allS P fn args [src] evs Ns m (.one (.c (.b (.r N n)))) [(N,.row cs t n sz)] β).map Prod.snd)
  (hN:Nat.ble 1 N=true) (hB:(args.all (SV.of fun k=>Nat.blt k 1)&&[src].all fun x=>x.of (fun k=>Nat.blt k 1)&&x.own)=true) (hr:(Ob.row cs t n sz).of (fun _=>false)=true) (β:Env) (w:World) (hh:src.holds β w (β 0)) :
  Calls P f (args.map (SV.den β)).toArray w fun e w'=>∃ g:Pl,w.heap.size≤g.b∧e=.returned ((SV.one (.c (.b (.r 0 n)))).den (fun _=>g))∧(Ob.row cs t n sz).holds (fun _=>g) w' g∧Below w.heap.size w w':=by
 rw [Bool.and_eq_true] at hB
 rw [Nat.ble_eq] at hN
 refine (sxN (P:=P) args [src] evs Ns m (.one (.c (.b (.r N n)))) [(N,.row cs t n sz)] hf hm (fun β=>ok_of_maps (h β)) hB.1 hB.2 β w (fun k o ho=>?_)).mono ?_
 · cases k with
   | zero=>simp only [List.getElem?_cons_zero] at ho; obtain rfl:=Option.some.inj ho; exact hh
   | succ k=>simp at ho
 · rintro e w' ⟨β',q,obj,e1,rfl,_,e4,e5,g,hl⟩
   have h5:=e5 _ (List.mem_cons_self ..)
   exact ⟨β' N,hl _ (List.mem_cons_self ..) rfl hN,rfl,Ob.holds_congr (q:=fun _=>false) (fun k hk=>by cases hk) _ hr h5,g.bel⟩
theorem pt_some:(Tryz.prog.info? PTT).isSome=true:=by kernel_rfl
noncomputable def appPt:AppT Tryz.prog :=
 ⟨91,PTT,(Tryz.prog.info? PTT).get pt_some,.agg #[.bool false,.bool false,.string ⟨#[]⟩,.bool false,.string ⟨#[]⟩,.bool false,.string ⟨#[]⟩,.bool false,.string ⟨#[]⟩],9,104,Tryz.underlying91,(Option.some_get pt_some).symm,by kernel_rfl,by kernel_rfl,by kernel_rfl,rfl,by decide,by decide⟩
noncomputable def sPClone (p q:Pt):RRow Tryz.prog :=
 ⟨363,Tryz.call363,[r2V],pr2 p q,pr2 p q,r2V,
  rrow_ok (N:=2) [.app appPt,.app appPt] [] 400 Tryz.func363 hmA (fun β=>by kernel_rfl) (by kernel_rfl) (by kernel_rfl) (by kernel_rfl),by kernel_rfl⟩
def sLen64:Spec Tryz.prog :=
 Spec.auto Tryz.call427 [.one (.c (.b (.v (.int .u64 2))))] [] (.one (svI 2)) [] [] [] 400 Tryz.func427 hmA (by kernel_rfl) (fun β=>by kernel_rfl)
def sBits2:Spec Tryz.prog :=
 Spec.auto Tryz.call406 [.one (.c (.b (.v (.int .u64 2))))] [] (.one (svI 2)) [] [sLen64.e] [] 400 Tryz.func406 hmA (by kernel_rfl) (fun β=>by kernel_rfl)
section
variable {p q:Pt} (hp:FitP p) (hq:FitP q)
noncomputable def sPdqNo (h:decide (ordI q p<0)=false):MSpec Tryz.prog :=
 ⟨405,Tryz.call405,[r2V,.one (svI 0),.one (svI 2),.one (svI 2),fvV 167],[],pr2 p q,pr2 p q,.tup [],[],
  mrow_ok [(sInsNo hp hq h).e] [(17,17)] 800 Tryz.func405 hmA (fun β=>by kernel_rfl) (by kernel_rfl) (by kernel_rfl),by kernel_rfl⟩
noncomputable def sPdqYes (h:decide (ordI q p<0)=true):MSpec Tryz.prog :=
 ⟨405,Tryz.call405,[r2V,.one (svI 0),.one (svI 2),.one (svI 2),fvV 167],[],pr2 p q,pr2 q p,.tup [],[],
  mrow_ok [(sInsYes hp hq h).e] [(17,17)] 800 Tryz.func405 hmA (fun β=>by kernel_rfl) (by kernel_rfl) (by kernel_rfl),by kernel_rfl⟩
noncomputable def sSortNo (h:decide (ordI q p<0)=false):MSpec Tryz.prog :=
 ⟨364,Tryz.call364,[r2V,fvV 167],[],pr2 p q,pr2 p q,.tup [],[],
  mrow_ok [sBits2.e,(sPdqNo hp hq h).e] [] 800 Tryz.func364 hmA (fun β=>by kernel_rfl) (by kernel_rfl) (by kernel_rfl),by kernel_rfl⟩
noncomputable def sSortYes (h:decide (ordI q p<0)=true):MSpec Tryz.prog :=
 ⟨364,Tryz.call364,[r2V,fvV 167],[],pr2 p q,pr2 q p,.tup [],[],
  mrow_ok [sBits2.e,(sPdqYes hp hq h).e] [] 800 Tryz.func364 hmA (fun β=>by kernel_rfl) (by kernel_rfl) (by kernel_rfl),by kernel_rfl⟩
end
noncomputable def sCompact2 {p q:Pt} (h:ptB q p=false):RSpec Tryz.prog :=
 RSpec.auto Tryz.call365 [r2V] (pr2 p q) r2V [eqEvPt h] [(6,10)] 400 Tryz.func365 hmA (by kernel_rfl) (by kernel_rfl) (by kernel_rfl) (fun β=>by kernel_rfl)
theorem pow_dig (m:Nat):(4294967296:Nat)^(m+1)=256^(4*m)*4294967296:=by
 rw [Nat.pow_succ,Nat.pow_mul]
theorem dig_big {n k:Nat} (h:n<256^k) (hk:k≤8000):(dig (5*n)).length≤4294967296:=by
 obtain ⟨m,hm⟩:∃ m:Nat,m=2000:=⟨_,rfl⟩
 have hkm:k≤4*m:=by omega
 refine Nat.le_trans (dig_len_le (5*n) (m+1) ?_) (by omega)
 have h1:256^k≤256^(4*m):=Nat.pow_le_pow_right (by decide) hkm
 rw [pow_dig]
 generalize (256:Nat)^(4*m)=z at h1
 omega
abbrev KS:Nat:=4000
structure RootB (x:Rat) (n d a b:Nat):Prop where
 hn:x.num=(n:Int)
 hd:(x.den:Int)=(d:Int)
 a1:a*a≤n
 a2:n<(a+1)*(a+1)
 b1:b*b≤d
 b2:d<(b+1)*(b+1)
 ln:(dig (5*n)).length≤4294967296
 ld:(dig (5*d)).length≤4294967296
 b0:(b:Int)≠0
 sa:sz (a:Int)≤KS
 sb:sz (b:Int)≤KS
def Spec.newsAs {P:Program} (S:Spec P) (l:List Thing) (h:S.news=l):Spec P :=
 ⟨S.f,S.en,S.args,S.obs,S.res,l,fun β w hh=>by rw [← h]; exact S.ok β w hh,by rw [← h]; exact S.closed⟩
section
variable {u:GQ} (hu:GSz 64 u)
include hu
end
def sERoot {x:Rat} (hx:Sz KB x) {n d a b:Nat} (h:RootB x n d a b) {t:Bool} (ht:decide (Rat.divInt a b*Rat.divInt a b=x)=t):Spec Tryz.prog :=
 Spec.auto Tryz.call362 [rV 0] [ratT x] (.tup [.c (.b (.z 1 0)),.c (.b (.v (.bool t)))]) [ratT (Rat.divInt a b)]
  [nSign (x:=x) rfl,.eqv 9 (.bool (decide (x.num.sign<0))) (.bool false) (nat_sign h.hn),mkI,nNum x,fSqrt h.hn h.a1 h.a2 h.ln,mkI,nDenom x,fSqrt h.hd h.b1 h.b2 h.ld,mkR,fSetFrac h.b0 (Nat.le_trans h.sa (by decide)) (Nat.le_trans h.sb (by decide)),
   (sMulR ((sz_divInt h.b0 h.sa h.sb).mono (by decide)) ((sz_divInt h.b0 h.sa h.sb).mono (by decide))).e,nCmp (c:=cmpQ (Rat.divInt a b*Rat.divInt a b) x) (((sz_divInt h.b0 h.sa h.sb).mul (sz_divInt h.b0 h.sa h.sb)).mono (by decide)) hx rfl,.eqv 28 (.bool (cmpQ (Rat.divInt a b*Rat.divInt a b) x==0)) (.bool t) (cmp_root ht)]
  [] 800 Tryz.func362 hmA (by kernel_rfl) (fun β=>by kernel_rfl)
theorem realG_ok {x:Rat} (β:Env) (w:World) (hh:∀ (k:Nat) (t:Thing),([ratT x]:List Thing)[k]?=some t→t.D w (β k)) :
  Calls Tryz.prog 359 (([rV 0]:List SV).map (SV.den β)).toArray w fun e w'=>∃ xs:List Pl,freshS β w 1 xs∧e=.returned ((nV 1).den (extE β 1 xs))∧newHold w' (gM ⟨x,0⟩) xs∧Below w.heap.size w w':=by
 have h0:(ratT x).D w (β 0):=hh 0 _ rfl
 refine (spec_auto (args:=[rV 0]) (obs:=[ratT x]) (res:=.one (.a [.b (.z 0 0),.b (.v (.pointer none))])) (news:=[]) (evs:=[]) (Ns:=[]) (m:=100) Tryz.func359 hmA (fun β=>by kernel_rfl) (by kernel_rfl) β w hh).mono ?_
 rintro e w' ⟨xs,_,rfl,h2,h3⟩
 obtain rfl:xs=[]:=by cases xs with | nil=>rfl | cons a l=>exact h2.elim
 refine ⟨[β 0,nilPl],fun y hy c hc=>?_,?_,⟨(ratT x).imp w' _ ((ratT x).st.below w w' _ h0 h3),nil_or (x:=0) (decide_eq_true rfl) w',trivial⟩,h3⟩
 · rcases List.mem_cons.1 hy with rfl | hy
   · exact .inr ⟨0,by show 0<1; decide,hc⟩
   · obtain rfl:=List.mem_singleton.1 hy
     exact absurd hc id
 · have e1:=extE_in (β:=β) (n:=1) (i:=0) (xs:=[β 0,nilPl]) rfl
   have e2:=extE_in (β:=β) (n:=1) (i:=1) (xs:=[β 0,nilPl]) rfl
   have e1:extE β 1 [β 0,nilPl] 1=β 0:=e1
   have e2:extE β 1 [β 0,nilPl] 2=nilPl:=e2
   rw [extE_nil]
   simp [SV.den,SC.den,Lf.den,Lf0.den,e1,e2]
   rfl
def sERealG (x:Rat):Spec Tryz.prog :=
 ⟨359,Tryz.call359,[rV 0],[ratT x],nV 1,gM ⟨x,0⟩,realG_ok,by kernel_rfl⟩
abbrev rg (x:Rat):GQ:=⟨x,0⟩
def wy0 (f:RQ):GQ:=gadd (rg f.b.re) (gmul (rg f.b.im) (gint 0 1))
def wayQ (f:RQ):GQ:=gconj (wy0 f)
def cenQ (f:RQ):GQ:=gscale (gneg (gconj (wy0 f))) (f.a)⁻¹
abbrev KI:Nat:=300
theorem rg_sz {k:Nat} {x:Rat} (h:Sz k x) (hk:1≤k):GSz k (rg x):=⟨h,sz_zero.mono hk⟩
theorem gi_sz:GSz 1 (gint 0 1):=GSz.int (by decide) (by decide)
section
variable {f:RQ} (hf:RSz KI f)
include hf in
theorem wym_sz:GSz 603 (gmul (rg f.b.im) (gint 0 1)):=((rg_sz hf.b.2 (by decide)).mul gi_sz).mono (by decide)
include hf in
theorem wy0_sz:GSz 904 (wy0 f):=((rg_sz hf.b.1 (by decide)).add (wym_sz hf)).mono (by decide)
include hf in
theorem wayQ_sz:GSz 904 (wayQ f):=(wy0_sz hf).conj
include hf in
theorem cenQ_sz (h0:f.a≠0):GSz 1204 (cenQ f):=((wy0_sz hf).conj.neg.scale (hf.a.inv h0)).mono (by decide)
noncomputable def wyE:List (Ev Tryz.prog):=[(sERealG f.b.re).e,(sERealG f.b.im).e,(sInt 0 1 (by decide) (by decide)).e,(sMul ((rg_sz hf.b.2 (by decide)).mono (by decide)) (gi_sz.mono (by decide))).e,(sAdd ((rg_sz hf.b.1 (by decide)).mono (by decide)) ((wym_sz hf).mono (by decide))).e]
noncomputable def sWay:Spec Tryz.prog :=
 Spec.auto Tryz.call360 [rgV 0] (rgT f) (nV 4) (gT (wayQ f)) (wyE hf++[(sConj (wy0 f)).e]) [(1,10)] 800 Tryz.func360 hmA (by kernel_rfl) (fun β=>by kernel_rfl)
noncomputable def sCentre (h0:f.a≠0):Spec Tryz.prog :=
 Spec.auto Tryz.call356 [rgV 0] (rgT f) (nV 4) (gT (cenQ f))
  (wyE hf++[(sConj (wy0 f)).e,(sNeg (gconj (wy0 f))).e,mkR,fInv (hf.a.mono (by decide)) h0,(sScale ((wy0_sz hf).conj.neg.mono (by decide)) ((hf.a.inv h0).mono (by decide))).e])
  [(1,10),(2,8)] 800 Tryz.func356 hmA (by kernel_rfl) (fun β=>by kernel_rfl)
end
abbrev i21:Rat:=Rat.divInt 2 1
abbrev i41:Rat:=Rat.divInt 4 1
def cuP (l k:RQ):GQ:=gmul (cenQ k) (gconj (wayQ l))
def cuV (l k:RQ):Rat:=(cuP l k).re*i21+l.c
def cuN (l:RQ):Rat:=gnorm (wayQ l)
def cuF (l k:RQ):GQ:=gsub (cenQ k) (gscale (wayQ l) (cuV l k/(cuN l*i21)))
def cuR (k:RQ):Rat:=fpr k k/(k.a*k.a)
def cuX (l k:RQ):Rat:=(cuR k-cuV l k*cuV l k/(cuN l*i41))/cuN l
def cuB (l:RQ) (t:Rat):GQ:=gscale (gmul (wayQ l) (gint 0 1)) t
section
variable {l k:RQ} (hl:RSz KI l) (hk:RSz KI k) (h0:k.a≠0) (hn:cuN l≠0)
theorem i41_sz:Sz 1 i41:=Sz.small (by decide)
theorem i21_sz:Sz 1 i21:=Sz.small (by decide)
theorem i21_ne:i21≠0:=n2_ne
theorem i41_ne:i41≠0:=of_decide_eq_true (by kernel_rfl:decide (i41≠0)=true)
theorem mul_ne {x y:Rat} (hx:x≠0) (hy:y≠0):x*y≠0:=fun h=>(Rat.mul_eq_zero.1 h).elim hx hy
include hl hk h0 in
theorem cuP_sz:GSz 5000 (cuP l k):=((cenQ_sz hk h0).mul (wayQ_sz hl).conj).mono (by decide)
include hl hk h0 in
theorem cuV_sz:Sz 5400 (cuV l k):=(((cuP_sz hl hk h0).1.mul i21_sz).add hl.c).mono (by decide)
include hl in
theorem cuN_sz:Sz 3700 (cuN l):=(wayQ_sz hl).norm.mono (by decide)
include hl hk h0 hn in
theorem cuQ_sz:Sz 9200 (cuV l k/(cuN l*i21)):=(div_sz (cuV_sz hl hk h0) ((cuN_sz hl).mul i21_sz) (mul_ne hn i21_ne)).mono (by decide)
include hl hk h0 hn in
theorem cuF_sz:GSz 12000 (cuF l k):=((cenQ_sz hk h0).sub ((wayQ_sz hl).scale (cuQ_sz hl hk h0 hn))).mono (by decide)
include hk h0 in
theorem cuR_sz:Sz 4000 (cuR k):=(div_sz (fpr_sz hk hk) (hk.a.mul hk.a) (mul_ne h0 h0)).mono (by decide)
include hl hk h0 hn in
theorem cuW_sz:Sz 14600 (cuV l k*cuV l k/(cuN l*i41)):=(div_sz ((cuV_sz hl hk h0).mul (cuV_sz hl hk h0)) ((cuN_sz hl).mul i41_sz) (mul_ne hn i41_ne)).mono (by decide)
include hl hk h0 hn in
theorem cuX_sz:Sz 22500 (cuX l k):=(div_sz ((cuR_sz hk h0).sub (cuW_sz hl hk h0 hn)) (cuN_sz hl) hn).mono (by decide)
noncomputable def cutE:List (Ev Tryz.prog) :=
 [(sCentre hk h0).e,(sWay hl).e,(sConj (wayQ l)).e,(sMul ((cenQ_sz hk h0).mono (by decide)) ((wayQ_sz hl).conj.mono (by decide))).e,(sParts (cuP l k)).e,
  (sMtNum 2).e,(sMtMul ((cuP_sz hl hk h0).1.mono (by decide)) (i21_sz.mono (by decide))).e,(sMtAdd (((cuP_sz hl hk h0).1.mul i21_sz).mono (by decide)) (hl.c.mono (by decide))).e,(sNorm ((wayQ_sz hl).mono (by decide))).e,
  (sMtNum 2).e,(sMtMul ((cuN_sz hl).mono (by decide)) (i21_sz.mono (by decide))).e,(sMtQuo ((cuV_sz hl hk h0).mono (by decide)) (((cuN_sz hl).mul i21_sz).mono (by decide)) (mul_ne hn i21_ne)).e,(sScale ((wayQ_sz hl).mono (by decide)) ((cuQ_sz hl hk h0 hn).mono (by decide))).e,
  (sSub ((cenQ_sz hk h0).mono (by decide)) (((wayQ_sz hl).scale (cuQ_sz hl hk h0 hn)).mono (by decide))).e,
  (sMtProd (hk.mono (by decide)) (hk.mono (by decide))).e,(sMtMul (hk.a.mono (by decide)) (hk.a.mono (by decide))).e,(sMtQuo ((fpr_sz hk hk).mono (by decide)) ((hk.a.mul hk.a).mono (by decide)) (mul_ne h0 h0)).e,
  (sMtMul ((cuV_sz hl hk h0).mono (by decide)) ((cuV_sz hl hk h0).mono (by decide))).e,(sMtNum 4).e,(sMtMul ((cuN_sz hl).mono (by decide)) (i41_sz.mono (by decide))).e,(sMtQuo (((cuV_sz hl hk h0).mul (cuV_sz hl hk h0)).mono (by decide)) (((cuN_sz hl).mul i41_sz).mono (by decide)) (mul_ne hn i41_ne)).e,
  (sMtSub ((cuR_sz hk h0).mono (by decide)) ((cuW_sz hl hk h0 hn).mono (by decide))).e,(sMtQuo (((cuR_sz hk h0).sub (cuW_sz hl hk h0 hn)).mono (by decide)) ((cuN_sz hl).mono (by decide)) hn).e]
abbrev cutNs:List (Nat × Nat):=[(1,6),(2,10),(3,7),(5,10),(6,10),(10,6),(11,11)]
noncomputable def sCutNo {n d a b:Nat} (h:RootB (cuX l k) n d a b) (ht:decide (Rat.divInt a b*Rat.divInt a b=cuX l k)=false):Spec Tryz.prog :=
 Spec.auto Tryz.call251 [rgV 0,rgV 4] (rgT l++rgT k) (.tup [.c (.b (.v (.slice none 0 0))),nI' 230]) []
  (cutE hl hk h0 hn++[(sERoot ((cuX_sz hl hk h0 hn).mono (by decide)) h ht).e]) cutNs 800 Tryz.func251 hmA (by kernel_rfl) (fun β=>by kernel_rfl)
end
structure RNew (P:Program) where
 f:FuncId
 en:Enters P f
 args:List SV
 src:Ob
 res:SV
 news:List Thing
 ok:∀ β w,src.holds β w (β 0)→Calls P f (args.map (SV.den β)).toArray w fun e w'=>∃ xs:List Pl,(∀ x∈xs,∀ c,x.F c→w.heap.size≤c)∧e=.returned (res.den (extE β 1 xs))∧newHold w' news xs∧Below w.heap.size w w'
 cl:(src.of (fun _=>false)&&(args.all (SV.of fun k=>Nat.beq k 0)&&res.of fun k=>Nat.ble 1 k&&Nat.blt k (1+news.length)))=true
def RNew.e {P:Program} (S:RNew P):Ev P:=.dyn (fun o _ _=>isCallB o) fun _ xs ob=>lit (bkOfR xs) fun i=>lit ob.length fun n =>
 .call S.f S.en (fun β=>(S.args.map (SV.den fun _=>β i)).toArray) [(i,S.src)] n (S.res.ren fun k=>n+(k-1)) S.news (fun β w h=>by
  have hc:=S.cl
  simp only [Bool.and_eq_true] at hc
  obtain ⟨c1,c2,c3⟩:=hc
  have h1:S.src.holds β w (β i):=h _ (List.mem_singleton.2 rfl)
  refine (S.ok (fun _=>β i) w (Ob.holds_congr (q:=fun _=>false) (fun k hk=>by cases hk) _ c1 h1)).mono fun e w' ⟨xs,k1,k2,k3,k4⟩=>⟨xs,fun x hx c hc=>.inl (k1 x hx c hc),?_,k3,k4⟩
  rw [k2,SV.den_ren]
  congr 1
  refine SV.den_congr (fun k hk=>?_) _ c3
  have hlen:=(newHold_get k3).1
  rw [Bool.and_eq_true,Nat.ble_eq,Nat.blt_eq] at hk
  have h5:k-1<xs.length:=by omega
  rw [extE_in (List.getElem?_eq_getElem h5)]
  have:=extE_in (β:=fun _=>β i) (n:=1) (List.getElem?_eq_getElem h5)
  rw [show 1+(k-1)=k by omega] at this
  exact this)
abbrev PSL:TypeId:=91
theorem slice3_run (w:World) (b:Nat) (c:Nat) (hc:2≤c) :
  (Instr.sliceAt PSL (.slice (some ⟨b,0,none⟩) 2 c) none (some (.int .i64 2)) (some (.int .i64 2))).run Tryz.prog w=.ok (.slice (some ⟨b,0,none⟩) 2 2) w:=by
 rw [run_sliceAt_slice w PSL _ _ _ _ (by kernel_rfl),run_slice_any w PSL _ _ _ (by kernel_rfl)]
 have hz:(sizeOf (Tryz.prog.elem PSL)).run Tryz.prog w=.ok 9 w:=by kernel_rfl
 have h1:(2:Int)≤(c:Int):=by omega
 simp [Instr.sliceBounds,run_sliceBound_if,h1,hz,Result.andThen,sliced,Addr.add]
def rdS3 (cs:List Lf):Ev Tryz.prog:=.rd 22 (.slice PSL (.tmp 17) none (some (.tmp 19)) (some (.tmp 21))) (fun β=>[.slice (some ⟨(β 1).b,0,none⟩) 2 ((β 1).c 0),.int .i64 2,.int .i64 2]) [(1,.row cs PTT 2 9)] 0 (.one (.c (.b (.s 1 0 2 2)))) [] (fun β w h ρ op ho hx=>by
 have h1:(Ob.row cs PTT 2 9).holds β w (β 1):=h _ (List.mem_singleton.2 rfl)
 obtain ⟨_,cur,_,_,h2,_⟩:=h1
 have h3:ρ (.tmp 17)=.slice (some ⟨(β 1).b,0,none⟩) 2 ((β 1).c 0)∧ρ (.tmp 19)=.int .i64 2∧ρ (.tmp 21)=.int .i64 2:=by simpa [Op.operands] using hx
 refine ⟨[],w,(fun _ h=>by cases h),?_,trivial,Below.refl _ _⟩
 rw [extE_nil]
 unfold execOp
 rw [ho]
 simp only [h3.1,h3.2.1,h3.2.2,Option.map_some,Option.map_none]
 simp [slice3_run w _ _ h2,Result.andThen]
 rfl)
def asS3:Ev Tryz.prog:=.rd 2 (.assign (.tmp 22)) (fun β=>[.slice (some ⟨(β 1).b,0,none⟩) 2 2]) [] 0 (.one (.c (.b (.s 1 0 2 2)))) [] (fun β w _ ρ op ho hx=>by
 refine ⟨[],w,(fun _ h=>by cases h),?_,trivial,Below.refl _ _⟩
 have h1:ρ (.tmp 22)=.slice (some ⟨(β 1).b,0,none⟩) 2 2:=by simpa [Op.operands] using hx
 rw [extE_nil]
 unfold execOp
 rw [ho]
 simp only [h1]
 rfl)
def cdOf:List Lf→List Cd
 | []=>[]
 | .b (.v x)::l=>.v x::cdOf l
 | _::l=>.v undef::cdOf l
abbrev pt2 (p q:Pt):List Cd:=cdOf (pw p++pw q)
theorem ptB_swap {p q:Pt} {r:Bool} (h:ptB p q=r):ptB q p=r:=by
 rw [← h,Bool.eq_iff_iff,ptB_iff,ptB_iff]
 exact ⟨Eq.symm,Eq.symm⟩
noncomputable def srE {p q:Pt} (hp:FitP p) (hq:FitP q) (hne:ptB q p=false) {b:Bool} (h:decide (ordI q p<0)=b):List (Ev Tryz.prog):=[(sPCheck2 hp hq).e,(sPClone p q).e]++(match b,h with
 | false,h=>[(sSortNo hp hq h).e,(sCompact2 hne).e,rdS3 (pw p++pw q),asS3]
 | true,h=>[(sSortYes hp hq h).e,(sCompact2 (p:=q) (q:=p) (ptB_swap hne)).e,rdS3 (pw q++pw p),asS3])
theorem sort_row {a b:Pt} {w:World} {β:Env} {evs:List (Ev Tryz.prog)} {src:Ob} (h:∀ β,(allS Tryz.prog Tryz.f252 [r2V] [src] evs [] 800 (.tup [.c (.b (.s 1 0 2 2)),nI' 0]) [(1,.row (pw a++pw b) PTT 2 9)] β).map Prod.fst=(allS Tryz.prog Tryz.f252 [r2V] [src] evs [] 800 (.tup [.c (.b (.s 1 0 2 2)),nI' 0]) [(1,.row (pw a++pw b) PTT 2 9)] β).map Prod.snd)
  (hB:([src].all fun x=>x.of (fun k=>Nat.blt k 1)&&x.own)=true) (hh:src.holds β w (β 0)) :
  Calls Tryz.prog 252 (([r2V]:List SV).map (SV.den β)).toArray w fun e u=>∃ xs:List Pl,(∀ x∈xs,∀ c,x.F c→w.heap.size≤c)∧e=.returned ((SV.tup [.c (.b (.y 1 18 2)),nI' 0]).den (extE β 1 xs))∧newHold u [rowT PTT (pt2 a b)] xs∧Below w.heap.size w u:=by
 refine (sxN (P:=Tryz.prog) [r2V] [src] evs [] 800 (.tup [.c (.b (.s 1 0 2 2)),nI' 0]) [(1,.row (pw a++pw b) PTT 2 9)] Tryz.func252 hmA (fun β=>ok_of_maps (h β)) (by kernel_rfl) hB β w (fun k o ho=>?_)).mono ?_
 · cases k with
   | zero=>simp only [List.getElem?_cons_zero] at ho; obtain rfl:=Option.some.inj ho; exact hh
   | succ k=>simp at ho
 · rintro e u ⟨β',q,obj,e1,rfl,_,e4,e5,g,hl⟩
   obtain ⟨hone,cur,hcur,hcl,hn,hcm,hsz,htake⟩:=e5 _ (List.mem_cons_self ..)
   have hb:=hl _ (List.mem_cons_self ..) rfl (Nat.le_refl 1)
   refine ⟨[⟨(β' 1).b,fun i=>match i with | 18=>some ⟨(β' 1).b,0,none⟩ | _=>none,fun _=>2,fun c=>c=(β' 1).b,fun _=>undef⟩],fun x hx c hc=>?_,rfl,⟨⟨⟨rfl,cur,hcur,?_⟩,⟨?_,rfl⟩,fun c hc=>?_⟩,trivial⟩,g.bel⟩
   · obtain rfl:=List.mem_singleton.1 hx
     obtain rfl:c=(β' 1).b:=hc
     exact hb
   · have:(pt2 a b).length=2*9:=rfl
     rw [this,htake]
     rfl
   · exact ⟨trivial,trivial,trivial,trivial,trivial,trivial,trivial,trivial,trivial,trivial,trivial,trivial,trivial,trivial,trivial,trivial,trivial,trivial,trivial⟩
   · obtain rfl:c=(β' 1).b:=hc
     exact heap_lt hcur
noncomputable def sSortP {p q:Pt} (hp:FitP p) (hq:FitP q) (hne:ptB q p=false) (h:decide (ordI q p<0)=true):RNew Tryz.prog :=
 ⟨252,Tryz.call252,[r2V],pr2 p q,.tup [.c (.b (.y 1 18 2)),nI' 0],[rowT PTT (pt2 q p)],fun β w hh=>sort_row (evs:=srE hp hq hne h) (fun β=>by kernel_rfl) (by kernel_rfl) hh,by kernel_rfl⟩
section
variable {l k:RQ} (hl:RSz KI l) (hk:RSz KI k) (h0:k.a≠0) (hn:cuN l≠0)
abbrev plC (z:GQ):List Cd:=[.v (.bool false),.r z.re,.r z.im]
def cutO (z w:GQ):List (Nat × Ob):=[(55,.box [.b (.v (.bool false)),.b (.z 51 0),.b (.z 52 0),.b (.v (.bool false)),.b (.z 53 0),.b (.z 54 0)] PLT),(51,(ratM z.re).ob),(52,(ratM z.im).ob),(53,(ratM w.re).ob),(54,(ratM w.im).ob)]
include hl in
theorem cub_sz {t:Rat} {j:Nat} (h:Sz j t):GSz (1811+j) (cuB l t):=((wayQ_sz hl).mul gi_sz).scale h
noncomputable def cutY {n d a b:Nat} (h:RootB (cuX l k) n d a b) (ht:decide (Rat.divInt a b*Rat.divInt a b=cuX l k)=true):List (Ev Tryz.prog) :=
 have hr:=sz_divInt h.b0 h.sa h.sb
 cutE hl hk h0 hn++[(sERoot ((cuX_sz hl hk h0 hn).mono (by decide)) h ht).e,(sInt 0 1 (by decide) (by decide)).e,(sMul ((wayQ_sz hl).mono (by decide)) (gi_sz.mono (by decide))).e,(sScale (((wayQ_sz hl).mul gi_sz).mono (by decide)) (hr.mono (by decide))).e,
  (sAdd ((cuF_sz hl hk h0 hn).mono (by decide)) ((cub_sz hl hr).mono (by decide))).e,(sSub ((cuF_sz hl hk h0 hn).mono (by decide)) ((cub_sz hl hr).mono (by decide))).e]
theorem cut_eqs {n d a b:Nat} (h:RootB (cuX l k) n d a b) (ht:decide (Rat.divInt a b*Rat.divInt a b=cuX l k)=true) (β:Env) :
  (allS Tryz.prog Tryz.f251 [rgV 0,rgV 4] ((rgT l++rgT k).map Thing.ob) (cutY hl hk h0 hn h ht) cutNs 800 (.tup [.c (.b (.s 55 0 2 2)),nI' 0]) (cutO (gadd (cuF l k) (cuB l (Rat.divInt a b))) (gsub (cuF l k) (cuB l (Rat.divInt a b)))) β).map Prod.fst=(allS Tryz.prog Tryz.f251 [rgV 0,rgV 4] ((rgT l++rgT k).map Thing.ob) (cutY hl hk h0 hn h ht) cutNs 800 (.tup [.c (.b (.s 55 0 2 2)),nI' 0]) (cutO (gadd (cuF l k) (cuB l (Rat.divInt a b))) (gsub (cuF l k) (cuB l (Rat.divInt a b)))) β).map Prod.snd:=by kernel_rfl
end
theorem cut_row {l k:RQ} {z z':GQ} {evs:List (Ev Tryz.prog)} (h:∀ β,(allS Tryz.prog Tryz.f251 [rgV 0,rgV 4] ((rgT l++rgT k).map Thing.ob) evs cutNs 800 (.tup [.c (.b (.s 55 0 2 2)),nI' 0]) (cutO z z') β).map Prod.fst=(allS Tryz.prog Tryz.f251 [rgV 0,rgV 4] ((rgT l++rgT k).map Thing.ob) evs cutNs 800 (.tup [.c (.b (.s 55 0 2 2)),nI' 0]) (cutO z z') β).map Prod.snd)
  (β:Env) (w:World) (hh:∀ (i:Nat) (t:Thing),(rgT l++rgT k)[i]?=some t→t.D w (β i)) :
  Calls Tryz.prog 251 (([rgV 0,rgV 4]:List SV).map (SV.den β)).toArray w fun e u=>∃ xs:List Pl,freshS β w 8 xs∧e=.returned ((SV.tup [.c (.b (.y 8 6 2)),nI' 0]).den (extE β 8 xs))∧newHold u [rowT PLT (plC z++plC z')] xs∧Below w.heap.size w u:=by
 refine (sx (P:=Tryz.prog) [rgV 0,rgV 4] ((rgT l++rgT k).map Thing.ob) evs cutNs 800 (.tup [.c (.b (.s 55 0 2 2)),nI' 0]) (cutO z z') Tryz.func251 hmA (fun β=>ok_of_maps (h β)) (by kernel_rfl) (by kernel_rfl) β w (fun i o ho=>?_)).mono ?_
 · rw [List.getElem?_map] at ho
   cases hx:(rgT l++rgT k)[i]? with
   | none=>rw [hx] at ho; cases ho
   | some t=>rw [hx] at ho; obtain rfl:=Option.some.inj ho; exact hh i t hx
 · rintro e u ⟨β',q',obj,e1,rfl,e2,e4,e5,g⟩
   have hor:∀ (i:Nat) (x:Rat),(i,(ratM x).ob)∈cutO z z'→OR0 x u (β' i):=fun i x hi=>e5 _ hi
   have o1:=hor 51 z.re (by simp [cutO])
   have o2:=hor 52 z.im (by simp [cutO])
   have o3:=hor 53 z'.re (by simp [cutO])
   have o4:=hor 54 z'.im (by simp [cutO])
   obtain ⟨hone,hcur⟩:=e5 _ (List.mem_cons_self ..)
   dsimp only at hone hcur
   refine ⟨[⟨(β' 55).b,fun i=>match i with | 1=>(β' 51).v 0 | 2=>(β' 52).v 0 | 4=>(β' 53).v 0 | 5=>(β' 54).v 0 | 6=>some ⟨(β' 55).b,0,none⟩ | _=>none,fun _=>2,fun c=>c=(β' 55).b∨(β' 51).F c∨(β' 52).F c∨(β' 53).F c∨(β' 54).F c,fun _=>undef⟩],fun x hx c hc=>?_,rfl,⟨⟨⟨.inl rfl,_,hcur,rfl⟩,⟨⟨trivial,or_cd o1 rfl fun c hc=>.inr (.inl hc),or_cd o2 rfl fun c hc=>.inr (.inr (.inl hc)),trivial,or_cd o3 rfl fun c hc=>.inr (.inr (.inr (.inl hc))),or_cd o4 rfl fun c hc=>.inr (.inr (.inr (.inr (hc)))),trivial⟩,rfl⟩,fun c hc=>?_⟩,trivial⟩,g.bel⟩
   · obtain rfl:=List.mem_singleton.1 hx
     have h4:∀ p∈cutO z z',∀ c,(β' p.1).F c→w.heap.size≤c∨∃ i,i<8∧(β i).F c:=e4
     rcases hc with rfl | hc | hc | hc | hc
     · exact h4 _ (List.mem_cons_self ..) _ ((hone.1 _).2 rfl)
     · exact h4 (51,(ratM z.re).ob) (by simp [cutO]) c hc
     · exact h4 (52,(ratM z.im).ob) (by simp [cutO]) c hc
     · exact h4 (53,(ratM z'.re).ob) (by simp [cutO]) c hc
     · exact h4 (54,(ratM z'.im).ob) (by simp [cutO]) c hc
   · rcases hc with rfl | hc | hc | hc | hc
     · exact heap_lt hcur
     · exact (or_stable _).lt u _ o1 c hc
     · exact (or_stable _).lt u _ o2 c hc
     · exact (or_stable _).lt u _ o3 c hc
     · exact (or_stable _).lt u _ o4 c hc
noncomputable def sCutYes {l k:RQ} (hl:RSz KI l) (hk:RSz KI k) (h0:k.a≠0) (hn:cuN l≠0) {n d a b:Nat} (h:RootB (cuX l k) n d a b) (ht:decide (Rat.divInt a b*Rat.divInt a b=cuX l k)=true):Spec Tryz.prog :=
 ⟨251,Tryz.call251,[rgV 0,rgV 4],rgT l++rgT k,.tup [.c (.b (.y 8 6 2)),nI' 0],[rowT PLT (plC (gadd (cuF l k) (cuB l (Rat.divInt a b)))++plC (gsub (cuF l k) (cuB l (Rat.divInt a b))))],cut_row (cut_eqs hl hk h0 hn h ht),by kernel_rfl⟩
end Go.Proofs.YtpccljaooghafaaGreat.Y
end
section
namespace Go.Proofs.YtpccljaooghafaaGreat.Y
open Go Go.RowKit
inductive Stop (P:Program) where
 | ended (f:Cf P)
 | head (c:Code) (ks:List Kf) (f:Cf P)
def Stop.cf {P:Program}:Stop P→Cf P
 | .ended f=>f
 | .head _ _ f=>f
def runP (P:Program) (m0 n:Nat) (Ns:List (Nat × Nat)):Nat→Option Code→List Kf→Cf P→Option (Stop P)
 | 0,_,_,_=>none
 | m+1,oc,ks,f=>match oc with
  | none=>match ks with
   | []=>some (.ended f)
   | .sq c::r=>runP P m0 n Ns m (some c) r f
   | .bl _::r=>runP P m0 n Ns m none r f
   | .lp c::r=>match f.ev with
    | .cut::ev'=>some (.head c r { f with ev:=ev' })
    | _=>runP P m0 n Ns m (some c) (.lp c::r) f
   | .sc::r=>runP P m0 n Ns m none r f
  | some c=>match c with
   | .skip=>runP P m0 n Ns m none ks f
   | .label _=>runP P m0 n Ns m none ks f
   | .region id ops d=>match (bif d then drawS1 P m0 n Ns id ops.toList f else seqS P m0 n ops ops.toList f) with
    | some f'=>runP P m0 n Ns m none ks f'
    | none=>none
   | .seq a b=>runP P m0 n Ns m (some a) (.sq b::ks) f
   | .cond x a b=>match evS idE f.sl x with
    | .bool true=>runP P m0 n Ns m (some a) ks { f with cs:=(fun β=>[(.v (evS β f.sl x),.v (.bool true))])::f.cs }
    | .bool false=>runP P m0 n Ns m (some b) ks { f with cs:=(fun β=>[(.v (evS β f.sl x),.v (.bool false))])::f.cs }
    | _=>none
   | .block id c=>runP P m0 n Ns m (some c) (.bl id::ks) f
   | .loop c=>match f.ev with
    | .cut::ev'=>some (.head c ks { f with ev:=ev' })
    | _=>runP P m0 n Ns m (some c) (.lp c::ks) f
   | .scope c=>runP P m0 n Ns m (some c) (.sc::ks) f
   | .exit id=>match popTo id ks with
    | some r=>runP P m0 n Ns m none r f
    | none=>none
   | .ret=>some (.ended f)
   | _=>none
def Stop.after {P:Program} (Q:Exit→Act→World→Prop) (a:Act) (w:World):Stop P→Prop
 | .ended _=>Q .normal a w∧Q .ret a w
 | .head c ks _=>Rounds P c (post P Q ks) a w
theorem Sync.ev {P:Program} {m0 n:Nat} {B0:Bd} {w0:World} {c:Cf P} {β:Env} {a:Act} {w:World} (h:Sync P m0 n B0 w0 c β a w) (x:List (Ev P)):Sync P m0 n B0 w0 { c with ev:=x } β a w:=⟨h.good,h.q,h.sl,h.of,h.m0,h.defers,h.uq⟩
theorem runP_ok {P:Program} {m0 n:Nat} {Ns:List (Nat × Nat)} (hm:P.follows .mixedOrders=true):∀ (m:Nat) (oc:Option Code) (ks:List Kf) (f:Cf P) (s:Stop P),runP P m0 n Ns m oc ks f=some s→f.full→(∀ x∈f.cs,x∈s.cf.cs)∧s.cf.full ∧
  (s.cf.good→∀ {B0:Bd} {w0:World} {β:Env} {a:Act} {w:World},Sync P m0 n B0 w0 f β a w→∀ (Q:Exit→Act→World→Prop),(∀ β' a' w',(∀ k,k<B0.k→β' k=β k)→Sync P m0 n B0 w0 s.cf β' a' w'→s.after Q a' w')→toShow P Q oc ks a w):=by
 intro m
 induction m with
 | zero=>intro oc ks f f' h; simp only [runP] at h; cases h
 | succ m ih =>
  intro oc ks f f' h hf
  simp only [runP] at h
  cases oc with
  | none =>
   dsimp only at h
   cases ks with
   | nil =>
    obtain rfl:=Option.some.inj h
    exact ⟨fun _ hx=>hx,hf,fun _ B0 w0 β a w s Q hQ=>(hQ β a w (fun _ _=>rfl) s).1⟩
   | cons x r =>
    cases x with
    | sq c=>obtain ⟨i1,i2,i3⟩:=ih _ _ _ _ h hf; exact ⟨i1,i2,fun hg B0 w0 β a w s Q hQ=>i3 hg s Q hQ⟩
    | bl j =>
     obtain ⟨i1,i2,i3⟩:=ih _ _ _ _ h hf
     exact ⟨i1,i2,fun hg B0 w0 β a w s Q hQ=>i3 hg s Q hQ⟩
    | lp c =>
     dsimp only at h
     split at h
     · obtain rfl:=Option.some.inj h
       exact ⟨fun _ hx=>hx,hf,fun _ B0 w0 β a w s Q hQ=>hQ β a w (fun _ _=>rfl) (s.ev _)⟩
     · obtain ⟨i1,i2,i3⟩:=ih _ _ _ _ h hf
       exact ⟨i1,i2,fun hg B0 w0 β a w s Q hQ=>rounds_one (i3 hg s Q hQ)⟩
    | sc=>obtain ⟨i1,i2,i3⟩:=ih _ _ _ _ h hf; exact ⟨i1,i2,fun hg B0 w0 β a w s Q hQ=>i3 hg s Q hQ⟩
  | some c =>
   cases c with
   | skip=>obtain ⟨i1,i2,i3⟩:=ih _ _ _ _ h hf; exact ⟨i1,i2,fun hg B0 w0 β a w s Q hQ=>wp_skip (i3 hg s Q hQ)⟩
   | label l=>obtain ⟨i1,i2,i3⟩:=ih _ _ _ _ h hf; exact ⟨i1,i2,fun hg B0 w0 β a w s Q hQ=>wp_label (i3 hg s Q hQ)⟩
   | region rid ops d =>
    dsimp only at h
    split at h
    · rename_i f1 h1
      cases d with
      | true =>
       simp only [cond_true] at h1
       have hf1:=drawS1_full h1 hf
       obtain ⟨i1,i2,i3⟩:=ih _ _ _ _ h hf1
       obtain ⟨j1,j2⟩:=drawS1_ok hm h1 (fun k hk=>(hf.1 k).1 hk) hf.2
       refine ⟨fun x hx=>i1 x (j1 x hx),i2,fun hg B0 w0 β a w s Q hQ=>?_⟩
       have:=j2 (fun β x hx=>hg β x (i1 x hx)) s (post P Q ks) fun β' a' w' e s'=>i3 hg s' Q fun β2 a2 w2 e2 s2=>hQ β2 a2 w2 (fun k hk=>(e2 k hk).trans (e k hk)) s2
       simp only [Array.toArray_toList] at this
       exact this
      | false =>
       simp only [cond_false] at h1
       have hf1:=seqS_full h1 hf
       obtain ⟨i1,i2,i3⟩:=ih _ _ _ _ h hf1
       obtain ⟨j1,j2⟩:=seqS_ok h1
       exact ⟨fun x hx=>i1 x (j1 x hx),i2,fun hg B0 w0 β a w s Q hQ=>wp_region_list (j2 (fun β x hx=>hg β x (i1 x hx)) s (post P Q ks) fun β' a' w' e s'=>i3 hg s' Q fun β2 a2 w2 e2 s2=>hQ β2 a2 w2 (fun k hk=>(e2 k hk).trans (e k hk)) s2)⟩
    · cases h
   | seq c d=>obtain ⟨i1,i2,i3⟩:=ih _ _ _ _ h hf; exact ⟨i1,i2,fun hg B0 w0 β a w s Q hQ=>wp_seq (i3 hg s Q hQ)⟩
   | cond x c d =>
    dsimp only at h
    split at h
    · obtain ⟨i1,i2,i3⟩:=ih _ _ _ _ h hf
      refine ⟨fun y hy=>i1 y (List.mem_cons_of_mem _ hy),i2,fun hg B0 w0 β a w s Q hQ=>?_⟩
      obtain ⟨e,_⟩:=Eqs.cons_ok (hg β _ (i1 _ (List.mem_cons_self ..)))
      injection e with e
      exact wp_cond_true (by rw [s.sl.eval]; exact e) (i3 hg (s.cs _) Q hQ)
    · obtain ⟨i1,i2,i3⟩:=ih _ _ _ _ h hf
      refine ⟨fun y hy=>i1 y (List.mem_cons_of_mem _ hy),i2,fun hg B0 w0 β a w s Q hQ=>?_⟩
      obtain ⟨e,_⟩:=Eqs.cons_ok (hg β _ (i1 _ (List.mem_cons_self ..)))
      injection e with e
      exact wp_cond_false (by rw [s.sl.eval]; exact e) (i3 hg (s.cs _) Q hQ)
    · cases h
   | block j c=>obtain ⟨i1,i2,i3⟩:=ih _ _ _ _ h hf; exact ⟨i1,i2,fun hg B0 w0 β a w s Q hQ=>wp_block (i3 hg s Q hQ)⟩
   | loop c =>
    dsimp only at h
    split at h
    · obtain rfl:=Option.some.inj h
      exact ⟨fun _ hx=>hx,hf,fun _ B0 w0 β a w s Q hQ=>rounds_loop (hQ β a w (fun _ _=>rfl) (s.ev _))⟩
    · obtain ⟨i1,i2,i3⟩:=ih _ _ _ _ h hf
      exact ⟨i1,i2,fun hg B0 w0 β a w s Q hQ=>rounds_loop (rounds_one (i3 hg s Q hQ))⟩
   | rangeFunc _ _ _ _=>cases h
   | exit j =>
    dsimp only at h
    split at h
    · rename_i r hr
      obtain ⟨i1,i2,i3⟩:=ih _ _ _ _ h hf
      exact ⟨i1,i2,fun hg B0 w0 β a w s Q hQ=>wp_exit (post_exit hr (i3 hg s Q hQ))⟩
    · cases h
   | scope c=>obtain ⟨i1,i2,i3⟩:=ih _ _ _ _ h hf; exact ⟨i1,i2,fun hg B0 w0 β a w s Q hQ=>wp_scope_straight (i3 hg s Q hQ)⟩
   | goto _=>cases h
   | ret =>
    obtain rfl:=Option.some.inj h
    exact ⟨fun _ hx=>hx,hf,fun _ B0 w0 β a w s Q hQ=>wp_ret (post_ret (hQ β a w (fun _ _=>rfl) s).2 ks)⟩
   | refuse _=>cases h
def loopsOf:Nat→Code→List Kf→List (Code × List Kf)
 | 0,_,_=>[]
 | m+1,c,ks=>match c with
  | .seq a b=>loopsOf m a (.sq b::ks)++loopsOf m b ks
  | .cond _ a b=>loopsOf m a ks++loopsOf m b ks
  | .block id c=>loopsOf m c (.bl id::ks)
  | .loop c=>(c,ks)::loopsOf m c (.lp c::ks)
  | .scope c=>loopsOf m c (.sc::ks)
  | _=>[]
def lpAt (fn:Func) (i:Nat):Code × List Kf:=match fn.body with
 | some c=>(loopsOf 200 c []).getD i (.skip,[])
 | none=>(.skip,[])
def Stop.pos {P:Program}:Stop P→Option (Code × List Kf)
 | .ended _=>none
 | .head c ks _=>some (c,ks)
def mkC (P:Program) (n u:Nat) (sl:List (Nat × SV)) (ob:List Ob) (ev:List (Ev P)):Cf P :=
 ⟨sl++(List.range n).map fun t=>(t,.one (.c (.b (.gh u t)))),fun k=>Nat.blt k ob.length,ob,ev,[]⟩
def tEq1 (β:Env) (σ:List Nat):Env:=fun j=>β (σ.getD j 0)
def opaqB (u t:Nat):SV→Bool
 | .one (.c (.b (.gh k i)))=>Nat.beq k u&&Nat.beq i t
 | _=>false
def layB:Ob→Bool
 | .box _ _=>true
 | .row _ _ _ _=>true
 | .ow _ _=>true
 | _=>false
def deadB:Ob→Bool
 | .dead=>true
 | _=>false
def kindB:Ob→Ob→Bool
 | .th _,.th _=>true
 | .al _ _,.th _=>true
 | .box _ _,.box _ _=>true
 | .row _ _ _ _,.row _ _ _ _=>true
 | .ow _ _,.ow _ _=>true
 | .ow _ _,.th _=>true
 | _,.dead=>true
 | _,_=>false
def wkB (m0 u:Nat) (obS obT:List Ob) (σ:List Nat):Bool :=
 Nat.beq σ.length obT.length&&Nat.ble m0 u&&Nat.blt u obT.length&&(List.range m0).all (fun i=>Nat.beq (σ.getD i 0) i) &&
 (List.range obT.length).all fun j=>match obT[j]? with
  | none=>false
  | some x=>(bif Nat.beq j u then deadB x else match obS[σ.getD j 0]? with
    | none=>false
    | some y=>kindB y x&&x.of (fun k=>Nat.blt k obT.length&&!Nat.beq k u)) &&
   (bif layB x then (!Nat.ble m0 j||Nat.ble m0 (σ.getD j 0))&&(List.range obT.length).all (fun i=>Nat.beq i j||(Nat.beq i u||((match obT[i]? with | some y=>deadB y | none=>false)||!Nat.beq (σ.getD i 0) (σ.getD j 0)))) else true)
def wkOb (β:Env) (σ:List Nat):Ob→Ob→Eqs
 | .box cs t,.box cs' t'=>[(.n t,.n t'),(.v (.agg (cs.map (Lf.den β)).toArray),.v (.agg (cs'.map (Lf.den (tEq1 β σ))).toArray))]
 | .row cs t n sz,.row cs' t' n' sz'=>[(.n t,.n t'),(.n n,.n n'),(.n sz,.n sz'),(.v (.agg (cs.map (Lf.den β)).toArray),.v (.agg (cs'.map (Lf.den (tEq1 β σ))).toArray))]
 | .ow D t,.ow D' t'=>[(.ob (.ow D t),.ob (.ow D' t'))]
 | .ow D _,.th t'=>[(.ob (.th D),.ob (.th t'))]
 | y,.th t=>[(.ob (y.plain (.th t)),.ob (.th t))]
 | _,_=>[]
def wkObs (β:Env) (obS:List Ob) (σ:List Nat):List Ob→Nat→Eqs
 | [],_=>[]
 | x::r,j=>(match obS[σ.getD j 0]? with | some y=>wkOb β σ y x | none=>(match x with | .dead=>[] | _=>Eqs.no))++wkObs β obS σ r (j+1)
def wkSl (β:Env) (u L:Nat) (σ:List Nat) (slS slT:List (Nat × SV)):Nat→Eqs
 | 0=>[]
 | t+1=>(bif opaqB u t (look slT t) then [] else bif (look slT t).of (fun k=>Nat.blt k L&&!Nat.beq k u) then [(.v ((look slS t).den β),.v ((look slT t).den (tEq1 β σ)))] else Eqs.no)++wkSl β u L σ slS slT t
def pieceE (P:Program) (m0 n:Nat) (s:Option (Stop P)) (u:Nat) (sl:List (Nat × SV)) (ob:List Ob) (σ:List Nat) (β:Env):Eqs :=
 match s with
 | some (.head _ _ f)=>(bif wkB m0 u f.ob ob σ&&Nat.beq f.ev.length 0&&sl.all (fun p=>Nat.blt p.1 n) then [] else Eqs.no)++(wkObs β f.ob σ ob 0++(wkSl β u ob.length σ f.sl (mkC P n u sl ob []).sl n++eqsOf β f.cs))
 | _=>Eqs.no
def lastE (P:Program) (fn:Func) (m0 n:Nat) (res:SV) (outs:List (Nat × Ob)) (s:Option (Stop P)) (β:Env):Eqs :=
 match s with
 | some (.ended f)=>fin1 P fn m0 n res outs f β
 | _=>Eqs.no
theorem Eqs.left {a b:Eqs} (h:Eqs.ok (a++b)):Eqs.ok a:=fun p hp=>h p (List.mem_append.2 (.inl hp))
theorem Eqs.right {a b:Eqs} (h:Eqs.ok (a++b)):Eqs.ok b:=fun p hp=>h p (List.mem_append.2 (.inr hp))
theorem bif_ok {b:Bool} (h:Eqs.ok (bif b then [] else Eqs.no)):b=true:=by
 cases b
 · exact (Eqs.no_ok h).elim
 · rfl
theorem look_none:∀ {l:List (Nat × SV)} {t:Nat},(∀ p∈l,p.1≠t)→look l t=undefS
 | [],_,_=>rfl
 | (k,x)::r,t,h=>by
  unfold look
  rw [show Nat.beq k t=false by rw [Bool.eq_false_iff,ne_eq,Nat.beq_eq]; exact h (k,x) (List.mem_cons_self ..),cond_false]
  exact look_none fun p hp=>h p (List.mem_cons_of_mem _ hp)
theorem wkObs_ok {β:Env} {obS:List Ob} {σ:List Nat}:∀ {obT:List Ob} {i:Nat},Eqs.ok (wkObs β obS σ obT i)→∀ (j:Nat) (x y:Ob),obT[j]?=some x→obS[σ.getD (i+j) 0]?=some y→Eqs.ok (wkOb β σ y x)
 | [],_,_,j,x,y,h,_=>by simp at h
 | z::r,i,h,j,x,y,hx,hy=>by
  unfold wkObs at h
  cases j with
  | zero =>
   simp only [List.getElem?_cons_zero] at hx
   obtain rfl:=Option.some.inj hx
   have:=Eqs.left h
   rw [Nat.add_zero] at hy
   rw [hy] at this
   exact this
  | succ j=>exact wkObs_ok (Eqs.right h) j x y (by simpa using hx) (by rw [show i+1+j=i+(j+1) by omega]; exact hy)
theorem opaqB_eq {u t:Nat} {x:SV} (h:opaqB u t x=true):x=.one (.c (.b (.gh u t))):=by
 unfold opaqB at h
 split at h
 · rw [Bool.and_eq_true,Nat.beq_eq,Nat.beq_eq] at h
   obtain ⟨rfl,rfl⟩:=h
   rfl
 · cases h
theorem wkSl_ok {β:Env} {u L:Nat} {σ:List Nat} {slS slT:List (Nat × SV)}:∀ {n:Nat},Eqs.ok (wkSl β u L σ slS slT n)→∀ t,t<n→look slT t=.one (.c (.b (.gh u t)))∨((look slT t).of (fun k=>Nat.blt k L&&!Nat.beq k u)=true∧(look slS t).den β=(look slT t).den (tEq1 β σ))
 | 0,_,t,h=>by omega
 | n+1,h,t,ht=>by
  unfold wkSl at h
  by_cases e:t=n
  · subst e
    have h:=Eqs.left h
    cases ho:opaqB u t (look slT t) with
    | true=>exact .inl (opaqB_eq ho)
    | false =>
     rw [ho,cond_false] at h
     cases hq:(look slT t).of (fun k=>Nat.blt k L&&!Nat.beq k u) with
     | true =>
      rw [hq,cond_true] at h
      obtain ⟨e,_⟩:=Eqs.cons_ok h
      injection e with e
      exact .inr ⟨rfl,e⟩
     | false=>rw [hq,cond_false] at h; exact (Eqs.no_ok h).elim
  · exact wkSl_ok (Eqs.right h) t (by omega)
theorem layB_iff {x:Ob}:layB x=true↔∃ p,x.layOf=some p:=by
 cases x<;>simp [layB,Ob.layOf]
theorem kind_lay {y x:Ob} (h:kindB y x=true) (hx:layB x=true):layB y=true:=by
 cases y<;>cases x<;>first | rfl | (cases h; done) | (cases hx; done)
theorem kind_dead {y x:Ob} (h:kindB y x=true) (hx:x≠.dead):y≠.dead:=by
 cases y<;>cases x<;>first | (intro e; cases e; done) | (cases h; done) | exact absurd rfl hx
theorem wk_hold {β β':Env} {w:World} {g:Pl} {σ:List Nat} {q:Nat→Bool} {y x:Ob} (hk:kindB y x=true) (he:Eqs.ok (wkOb β σ y x)) (hq:x.of q=true) (hβ:∀ k,q k=true→tEq1 β σ k=β' k) (h:y.holds β w g):x.holds β' w g:=by
 have thc:∀ (y:Ob) (t:Thing),Eqs.ok [(Tm.ob (y.plain (.th t)),Tm.ob (.th t))]→y.holds β w g→(Ob.th t).holds β' w g:=fun y t he h=>by
  obtain ⟨e,_⟩:=Eqs.cons_ok he
  injection e with e
  have:=Ob.plain_holds (x:=.th t) h
  rw [e] at this
  exact this
 cases x with
 | dead=>exact trivial
 | al r D=>cases y<;>(cases hk; done)
 | pl n=>cases y<;>(cases hk; done)
 | th t =>
  cases y<;>first | (cases hk; done) | exact thc _ t he h | skip
  obtain ⟨e,_⟩:=Eqs.cons_ok he
  injection e with e
  injection e with e
  subst e
  exact h.2
 | ow D' t' =>
  cases y<;>first | (cases hk; done) | skip
  obtain ⟨e,_⟩:=Eqs.cons_ok he
  injection e with e
  injection e with e e2
  subst e e2
  exact h
 | box cs' t' =>
  cases y<;>first | (cases hk; done) | skip
  rename_i cs t
  obtain ⟨e1,he⟩:=Eqs.cons_ok he
  obtain ⟨e2,_⟩:=Eqs.cons_ok he
  injection e1 with e1
  injection e2 with e2
  injection e2 with e2
  have e2:=congrArg Array.toList e2
  dsimp only at e2
  subst e1
  have hc:cs'.map (Lf.den (tEq1 β σ))=cs'.map (Lf.den β'):=all_congr hq (Lf.den_congr hβ)
  refine ⟨h.1,?_⟩
  rw [← hc,← e2]
  exact h.2
 | row cs' t' n' sz' =>
  cases y<;>first | (cases hk; done) | skip
  rename_i cs t n sz
  obtain ⟨e1,he⟩:=Eqs.cons_ok he
  obtain ⟨e3,he⟩:=Eqs.cons_ok he
  obtain ⟨e4,he⟩:=Eqs.cons_ok he
  obtain ⟨e2,_⟩:=Eqs.cons_ok he
  injection e1 with e1
  injection e3 with e3
  injection e4 with e4
  injection e2 with e2
  injection e2 with e2
  have e2:=congrArg Array.toList e2
  dsimp only at e2
  subst e1 e3 e4
  have hc:cs'.map (Lf.den (tEq1 β σ))=cs'.map (Lf.den β'):=all_congr hq (Lf.den_congr hβ)
  have hl:cs'.length=cs.length:=by
   have:=congrArg List.length e2
   rw [List.length_map,List.length_map] at this
   exact this.symm
  obtain ⟨h0,cur,h1,h2,h3,h4,h5,h6⟩:=h
  refine ⟨h0,cur,h1,by rw [hl]; exact h2,h3,h4,h5,?_⟩
  rw [← hc,← e2]
  exact h6
theorem wk_sync {P:Program} {m0 n u:Nat} {N:Nat} {w0:World} {f:Cf P} {sl:List (Nat × SV)} {ob:List Ob} {ev:List (Ev P)} {σ:List Nat} {β:Env} {a:Act} {w:World}
  (hB:wkB m0 u f.ob ob σ=true) (hn:sl.all (fun p=>Nat.blt p.1 n)=true) (hO:Eqs.ok (wkObs β f.ob σ ob 0)) (hS:Eqs.ok (wkSl β u ob.length σ f.sl (mkC P n u sl ob ev).sl n)) (h:Sync P m0 n (bd0 N m0) w0 f β a w) :
  ∃ β':Env,(∀ k,k<m0→β' k=β k)∧Sync P m0 n (bd0 N m0) w0 (mkC P n u sl ob ev) β' a w:=by
 unfold wkB at hB
 rw [Bool.and_eq_true,Bool.and_eq_true,Bool.and_eq_true,Bool.and_eq_true,Nat.beq_eq,Nat.ble_eq,Nat.blt_eq] at hB
 obtain ⟨⟨⟨⟨hlen,hmu⟩,hul⟩,hid⟩,hall⟩:=hB
 have hσ:∀ i,i<m0→σ.getD i 0=i:=fun i hi=>Nat.eq_of_beq_eq_true (List.all_eq_true.1 hid i (List.mem_range.2 hi))
 obtain ⟨β',hβ⟩:∃ β':Env,β'=fun j=>if j=u then ⟨0,fun _=>none,fun _=>0,fun _=>False,fun t=>a.tmps.getD t undef⟩ else β (σ.getD j 0):=⟨_,rfl⟩
 have hβu:β' u=⟨0,fun _=>none,fun _=>0,fun _=>False,fun t=>a.tmps.getD t undef⟩:=by rw [hβ]; exact if_pos rfl
 have hβo:∀ j,j≠u→β' j=β (σ.getD j 0):=fun j hj=>by rw [hβ]; exact if_neg hj
 have hβm:∀ k,k<m0→β' k=β k:=fun k hk=>by rw [hβo k (by omega),hσ k hk]
 have hq:∀ k,(Nat.blt k ob.length&&!Nat.beq k u)=true→tEq1 β σ k=β' k:=fun k hk=>by
  rw [Bool.and_eq_true,Bool.not_eq_true',Nat.blt_eq] at hk
  rw [hβo k (fun e=>by rw [e,Nat.beq_refl] at hk; cases hk.2)]
  rfl
 have hmono:∀ k,(Nat.blt k ob.length&&!Nat.beq k u)=true→Nat.blt k ob.length=true:=fun k hk=>by rw [Bool.and_eq_true] at hk; exact hk.1
 have hsrc:∀ (j:Nat) (x:Ob),ob[j]?=some x→(j=u→x=.dead)∧(j≠u→∃ y,f.ob[σ.getD j 0]?=some y∧kindB y x=true∧x.of (fun k=>Nat.blt k ob.length&&!Nat.beq k u)=true)∧(layB x=true→(m0≤j→m0≤σ.getD j 0)∧∀ (i:Nat) (y:Ob),ob[i]?=some y→y≠.dead→i≠j→i≠u→σ.getD i 0≠σ.getD j 0):=by
  intro j x hx
  have hj:j<ob.length:=(List.getElem?_eq_some_iff.1 hx).1
  have hc:=List.all_eq_true.1 hall j (List.mem_range.2 hj)
  rw [hx] at hc
  dsimp only at hc
  rw [Bool.and_eq_true] at hc
  obtain ⟨hc1,hc2⟩:=hc
  refine ⟨fun e=>?_,fun e=>?_,fun hl=>?_⟩
  · rw [e,Nat.beq_refl,cond_true] at hc1
    cases x<;>first | rfl | (cases hc1; done)
  · rw [show Nat.beq j u=false by rw [Bool.eq_false_iff,ne_eq,Nat.beq_eq]; exact e,cond_false] at hc1
    split at hc1
    · cases hc1
    · rename_i y hy
      rw [Bool.and_eq_true] at hc1
      exact ⟨y,hy,hc1.1,hc1.2⟩
  · rw [hl,cond_true,Bool.and_eq_true,Bool.or_eq_true] at hc2
    refine ⟨fun hm=>?_,fun i y hy hd hij hiu e=>?_⟩
    · rcases hc2.1 with h1 | h1
      · rw [Bool.not_eq_true',Bool.eq_false_iff,ne_eq,Nat.ble_eq] at h1
        exact absurd hm h1
      · exact Nat.le_of_ble_eq_true h1
    · have hi:i<ob.length:=(List.getElem?_eq_some_iff.1 hy).1
      have h1:=List.all_eq_true.1 hc2.2 i (List.mem_range.2 hi)
      rw [hy,Bool.or_eq_true,Bool.or_eq_true,Bool.or_eq_true,Nat.beq_eq,Nat.beq_eq,e,Nat.beq_refl] at h1
      rcases h1 with h1 | h1 | h1 | h1
      · exact hij h1
      · exact hiu h1
      · refine hd ?_
        cases y<;>first | rfl | (cases h1; done)
      · cases h1
 have hex:∀ {k:Nat} {y:Ob},f.ob[k]?=some y→f.q k=true:=fun {k y} hy=>(h.q k).2 (List.getElem?_eq_some_iff.1 hy).1
 have hob:∀ {k:Nat},Nat.blt k ob.length=true→∃ x,ob[k]?=some x:=fun {k} hk=>⟨_,List.getElem?_eq_getElem (by rw [Nat.blt_eq] at hk; exact hk)⟩
 have hfree:∀ {k:Nat} {x:Ob},ob[k]?=some x→Free (fun k=>Nat.blt k ob.length) (fun k=>ob[k]?) k→layB x=true∧k≠u:=fun {k x} hx hf=>by
  rcases hf with ⟨x',e,p,hp⟩ | ⟨⟨m,e⟩,_⟩
  · dsimp only at e
    rw [hx] at e
    obtain rfl:=Option.some.inj e
    refine ⟨layB_iff.2 ⟨p,hp⟩,fun e=>?_⟩
    rw [(hsrc k x hx).1 e] at hp
    cases hp
  · dsimp only at e
    rw [hx] at e
    obtain rfl:=Option.some.inj e
    exfalso
    by_cases ek:k=u
    · have:=(hsrc k _ hx).1 ek
      cases this
    · obtain ⟨y,_,hk,_⟩:=(hsrc k _ hx).2.1 ek
      cases y<;>(cases hk; done)
 have hlayS:∀ {k:Nat} {x:Ob},ob[k]?=some x→layB x=true→k≠u→f.q (σ.getD k 0)=true∧Free f.q (fun k=>f.ob[k]?) (σ.getD k 0):=fun {k x} hx hl hku=>by
  obtain ⟨y,hy,hk,_⟩:=(hsrc k x hx).2.1 hku
  obtain ⟨p,hp⟩:=layB_iff.1 (kind_lay hk hl)
  exact ⟨hex hy,Free.lay hy hp⟩
 refine ⟨β',hβm,⟨⟨h.good.bel,h.good.le,?_,?_,?_,?_,?_,?_,?_,?_,?_⟩,fun k=>by dsimp only [mkC]; rw [Nat.blt_eq],⟨h.sl.1,fun t=>?_⟩,fun t=>?_,?_,h.defers,?_⟩⟩
 ·
  intro k o hk hko
  dsimp only [mkC] at hk hko ⊢
  by_cases e:k=u
  · rw [(hsrc k o hko).1 e]
    exact ⟨trivial,rfl⟩
  · obtain ⟨y,hy,hkd,hof⟩:=(hsrc k o hko).2.1 e
    have hh:=(h.good.hold _ y (hex hy) hy).1
    refine ⟨?_,Ob.of_mono hmono _ hof⟩
    rw [hβo k e]
    refine wk_hold hkd (wkObs_ok hO k o y hko ?_) hof hq hh
    rw [Nat.zero_add]
    exact hy
 ·
  intro k hk c hc
  dsimp only [mkC] at hk
  by_cases e:k=u
  · rw [e,hβu] at hc; exact hc.elim
  · rw [hβo k e] at hc
    obtain ⟨x,hx⟩:=hob hk
    obtain ⟨y,hy,_⟩:=(hsrc k x hx).2.1 e
    exact h.good.lt _ (hex hy) c hc
 ·
  intro k j hk hj hne hm hf hd
  dsimp only [mkC] at hk hj hf hd
  obtain ⟨x,hx⟩:=hob hk
  obtain ⟨z,hz⟩:=hob hj
  obtain ⟨hl,hku⟩:=hfree hx hf
  by_cases e:j=u
  · rw [e,hβu]; exact fun hc=>hc.elim
  · obtain ⟨hs1,hs2⟩:=hlayS hx hl hku
    obtain ⟨hm2,hdis⟩:=(hsrc k x hx).2.2 hl
    obtain ⟨y,hy,hkd,_⟩:=(hsrc j z hz).2.1 e
    have hzd:z≠.dead:=fun e=>hd (by rw [hz,e])
    rw [hβo k hku,hβo j e]
    exact h.good.ne _ _ hs1 (hex hy) (hdis j z hz hzd hne e) (hm2 hm) hs2 (fun e=>kind_dead hkd hzd (Option.some.inj (hy.symm.trans e)))
 ·
  intro k x hk hm hx hmi
  dsimp only [mkC] at hk hx
  obtain ⟨hl,hku⟩:layB x=true∧k≠u:=by
   refine ⟨?_,fun e=>by rw [(hsrc k x hx).1 e] at hmi; cases hmi⟩
   cases x<;>first | (cases hmi; done) | exact layB_iff.2 ⟨_,rfl⟩ | skip
   exfalso
   by_cases ek:k=u
   · have:=(hsrc k _ hx).1 ek
     cases this
   · obtain ⟨y,_,hk,_⟩:=(hsrc k _ hx).2.1 ek
     cases y<;>(cases hk; done)
  obtain ⟨hs1,hs2⟩:=hlayS hx hl hku
  rw [hβo k hku]
  exact h.good.low _ hs1 (((hsrc k x hx).2.2 hl).1 hm) hs2
 ·
  intro k hk hm c hc
  dsimp only [mkC] at hk
  by_cases e:k=u
  · rw [e,hβu] at hc; exact hc.elim
  · rw [hβo k e] at hc
    obtain ⟨x,hx⟩:=hob hk
    obtain ⟨y,hy,_⟩:=(hsrc k x hx).2.1 e
    by_cases hs:m0≤σ.getD k 0
    · exact (h.good.fr _ (hex hy) hs c hc).imp id fun ⟨i,i1,i2⟩=>⟨i,i1,by rw [hβm i i1]; exact i2⟩
    · exact .inr ⟨σ.getD k 0,by omega,by rw [hβm _ (by omega)]; exact hc⟩
 · intro i hi
   dsimp only [mkC]
   rw [Nat.blt_eq]
   omega
 · intro k r D hk ho
   dsimp only [mkC] at ho
   exfalso
   by_cases e:k=u
   · have:=(hsrc k _ ho).1 e
     cases this
   · obtain ⟨y,_,hkd,_⟩:=(hsrc k _ ho).2.1 e
     cases y<;>(cases hkd; done)
 · intro k r D hk ho
   dsimp only [mkC] at ho
   exfalso
   by_cases e:k=u
   · have:=(hsrc k _ ho).1 e
     cases this
   · obtain ⟨y,_,hkd,_⟩:=(hsrc k _ ho).2.1 e
     cases y<;>(cases hkd; done)
 · intro k i hk hi hlt hm hd hp
   dsimp only [mkC] at hp
   obtain ⟨M,hp⟩:=hp
   exfalso
   by_cases e:i=u
   · have:=(hsrc i _ hp).1 e
     cases this
   · obtain ⟨y,_,hkd,_⟩:=(hsrc i _ hp).2.1 e
     cases y<;>(cases hkd; done)
 ·
  by_cases ht:t<n
  · rcases wkSl_ok hS t ht with e | ⟨e1,e2⟩
    · rw [e]
      show _=(β' u).u t
      rw [hβu]
    · rw [h.sl.2 t,e2]
      exact SV.den_congr hq _ e1
  · have hl:look (mkC P n u sl ob ev).sl t=undefS:=look_none fun p hp=>by
     rcases List.mem_append.1 hp with hp | hp
     · have:=List.all_eq_true.1 hn p hp
       rw [Nat.blt_eq] at this
       omega
     · obtain ⟨t',ht',rfl⟩:=List.mem_map.1 hp
       have:=List.mem_range.1 ht'
       dsimp only
       omega
    rw [hl]
    show a.tmps.getD t undef=undef
    rw [Array.getD_eq_getD_getElem?,Array.getElem?_eq_none (by rw [h.sl.1]; omega)]
    rfl
 · by_cases ht:t<n
   · rcases wkSl_ok hS t ht with e | ⟨e1,e2⟩
     · rw [e]
       show Nat.blt u ob.length=true
       rw [Nat.blt_eq]; exact hul
     · exact SV.of_mono hmono _ e1
   · have hl:look (mkC P n u sl ob ev).sl t=undefS:=look_none fun p hp=>by
      rcases List.mem_append.1 hp with hp | hp
      · have:=List.all_eq_true.1 hn p hp
        rw [Nat.blt_eq] at this
        omega
      · obtain ⟨t',ht',rfl⟩:=List.mem_map.1 hp
        have:=List.mem_range.1 ht'
        dsimp only
        omega
     rw [hl]; rfl
 · show m0≤ob.length∧m0≤ob.length
   omega
 · intro k j i D D' h1 h2
   exfalso
   by_cases e:k=u
   · have:=(hsrc k _ h1).1 e
     cases this
   · obtain ⟨y,_,hkd,_⟩:=(hsrc k _ h1).2.1 e
     cases y<;>(cases hkd; done)
def HdOk (P:Program) (m0 n:Nat) (N:Nat) (w0:World) (β0:Env) (Q:Exit→Act→World→Prop) (C:Cf P) (p:Code × List Kf):Prop :=
 ∀ (β:Env) (a:Act) (w:World),(∀ k,k<m0→β k=β0 k)→Sync P m0 n (bd0 N m0) w0 C β a w→Rounds P p.1 (post P Q p.2) a w
theorem pieceE_parts {P:Program} {m0 n:Nat} {c:Code} {ks:List Kf} {f:Cf P} {u:Nat} {sl:List (Nat × SV)} {ob:List Ob} {σ:List Nat} (ev:List (Ev P)) (he:∀ β,Eqs.ok (pieceE P m0 n (some (.head c ks f)) u sl ob σ β)) :
  f.good∧∀ {N:Nat} {w0:World} {β:Env} {a:Act} {w:World},Sync P m0 n (bd0 N m0) w0 f β a w→∃ β':Env,(∀ k,k<m0→β' k=β k)∧Sync P m0 n (bd0 N m0) w0 (mkC P n u sl ob ev) β' a w:=by
 refine ⟨fun β x hx=>eqsOf_ok (Eqs.right (Eqs.right (Eqs.right (he β)))) x hx,fun {N w0 β a w} hs=>?_⟩
 have h:=he β
 have h1:=bif_ok (Eqs.left h)
 rw [Bool.and_eq_true,Bool.and_eq_true] at h1
 exact wk_sync h1.1.1 h1.2 (Eqs.left (Eqs.right h)) (Eqs.left (Eqs.right (Eqs.right h))) hs
theorem piece_ok {P:Program} {m0 n:Nat} {N:Nat} {w0:World} {β0:Env} {Q:Exit→Act→World→Prop} {Ns:List (Nat × Nat)} {m:Nat} {C:Cf P} {p p':Code × List Kf} {u:Nat} {sl:List (Nat × SV)} {ob:List Ob} (ev:List (Ev P)) (σ:List Nat) (hm:P.follows .mixedOrders=true)
  (hp:(runP P m0 n Ns m (some p.1) (.lp p.1::p.2) C).bind Stop.pos=some p') (he:∀ β,Eqs.ok (pieceE P m0 n (runP P m0 n Ns m (some p.1) (.lp p.1::p.2) C) u sl ob σ β))
  (hH:HdOk P m0 n N w0 β0 Q (mkC P n u sl ob ev) p'):HdOk P m0 n N w0 β0 Q C p:=by
 intro β a w hβ hs
 cases hr:runP P m0 n Ns m (some p.1) (.lp p.1::p.2) C with
 | none=>rw [hr] at hp; cases hp
 | some s =>
  rw [hr] at hp he
  cases s with
  | ended f=>cases hp
  | head c ks f =>
   obtain rfl:(c,ks)=p':=Option.some.inj hp
   obtain ⟨hg,hw⟩:=pieceE_parts ev he
   obtain ⟨_,_,r3⟩:=runP_ok hm _ _ _ _ _ hr ⟨hs.q,hs.uq⟩
   refine rounds_one (r3 hg hs Q fun β' a' w' e s'=>?_)
   obtain ⟨β'',e2,s2⟩:=hw s'
   exact hH β'' a' w' (fun k hk=>(e2 k hk).trans ((e k hk).trans (hβ k hk))) s2
def Said (P:Program) (fn:Func) (m0:Nat) (res:SV) (outs:List (Nat × Ob)) (β:Env) (w:World) (e:Ending) (w':World):Prop :=
 ∃ (β':Env) (q:Nat→Bool) (obj:Nat→Option Ob),(∀ k,k<m0→β' k=β k)∧e=.returned (res.den β')∧res.of q=true∧(∀ p∈outs,∀ c,(β' p.1).F c→w.heap.size≤c∨∃ i,i<m0∧(β i).F c)∧holdsAll β' w' outs∧Fin w w'
theorem fin1_parts {P:Program} {fn:Func} {m0 n:Nat} {res:SV} {outs:List (Nat × Ob)} {f:Cf P} (h:∀ β,Eqs.ok (fin1 P fn m0 n res outs f β)):f.good∧∀ {β0:Env} {w:World} {β':Env} {a':Act} {w':World},(∀ k,k<m0→β' k=β0 k)→Sync P m0 n (bd0 w.heap.size m0) w f β' a' w' →
  bodyPost P fn (Said P fn m0 res outs β0 w) .normal a' w'∧bodyPost P fn (Said P fn m0 res outs β0 w) .ret a' w':=by
 have fin:∃ r:R1 Value,run1 P m0 false (results fn (tmpsS idE f.sl n)) f.q f.ob []=some r∧res.of f.q=true∧r.ob.length=f.ob.length ∧
   ∀ β,Eqs.ok (chk P β (results fn (tmpsS β f.sl n)) r.tr.reverse (fun u=>[(.v u,.v (res.den β))])++(needEqs f.q f.ob outs++eqsOf β f.cs)):=by
  cases hx:run1 P m0 false (results fn (tmpsS idE f.sl n)) f.q f.ob [] with
  | none=>have:=h idE; unfold fin1 at this; rw [hx] at this; exact (Eqs.no_ok this).elim
  | some r =>
   obtain ⟨ra,rq,rob,rtr⟩:=r
   cases hc:(res.of f.q&&Nat.beq rob.length f.ob.length&&Nat.beq f.ev.length 0) with
   | false=>have:=h idE; unfold fin1 at this; rw [hx] at this; dsimp only at this; rw [hc] at this; exact (Eqs.no_ok this).elim
   | true =>
    have h3:=hc
    simp only [Bool.and_eq_true,Nat.beq_eq] at hc
    refine ⟨_,rfl,hc.1.1,hc.1.2,fun β=>?_⟩
    have:=h β
    unfold fin1 at this
    rw [hx] at this
    dsimp only at this
    rw [h3] at this
    exact this
 obtain ⟨r,f1,f2,f3,f4⟩:=fin
 refine ⟨fun β x hx=>eqsOf_ok (fun p hp=>f4 β p (List.mem_append.2 (.inr (List.mem_append.2 (.inr hp))))) x hx,?_⟩
 intro β0 w β' a' w' e s
 obtain ⟨h5,_,_,tr,h8,h9⟩:=run1_ok _ _ _ _ _ f1 (fun k hk=>(s.q k).1 hk)
 obtain ⟨k1,obj',k2,k3,k4⟩:=h9 _ _ _ _ _ _ s.good (fun k hk=>⟨hk,rfl⟩) (fun k a b=>by omega) s.m0.1
 have h6:=f4 β'
 rw [h8,List.append_nil,List.reverse_reverse] at h6
 have h7:Eqs.ok (chk P β' (results fn (tmpsS β' f.sl n)) tr (fun u=>[(.v u,.v (res.den β'))])):=fun p hp=>h6 p (List.mem_append.2 (.inl hp))
 obtain ⟨v,hv,hv2⟩:=chk_run _ _ _ h7 k1
 obtain ⟨e1,_⟩:=Eqs.cons_ok hv2
 injection e1 with e1
 subst e1
 rw [f3,rangeQ_self] at k4
 have hend:trEnd β' w' tr=w':=by
  obtain ⟨tr2,x1,x2⟩:=run1_still _ _ _ _ _ f1 (fun k hk=>(s.q k).1 hk) f3
  rw [h8,List.append_nil,List.append_nil] at x1
  rw [List.reverse_inj.1 x1]
  exact x2 β' w'
 rw [hend] at hv k4
 rw [← tmps_eq s.sl] at hv
 have hout:∀ p:Nat × Ob,f.q p.1=true→∀ c,(β' p.1).F c→w.heap.size≤c∨∃ i,i<m0∧(β0 i).F c:=fun p hp c hc=>by
  by_cases h0:m0≤p.1
  · exact (s.good.fr p.1 hp h0 c hc).imp (fun a=>a.elim id False.elim) fun ⟨i,i1,i2⟩=>⟨i,i1,by rw [← e i i1]; exact i2⟩
  · exact .inr ⟨p.1,by omega,by rw [← e p.1 (by omega)]; exact hc⟩
 have hneed:Eqs.ok (needEqs f.q f.ob outs):=fun p hp=>f4 β' p (List.mem_append.2 (.inr (List.mem_append.2 (.inl hp))))
 have hres:bodyPost P fn (Said P fn m0 res outs β0 w) .normal a' w':=⟨s.defers,_,hv,β',f.q,obj',e,rfl,f2,fun p hp c hc=>hout p (needs_q _ hneed p hp) c hc,needs_hold s.good (fun k hk=>⟨hk,rfl⟩) _ hneed,⟨k4.bel.below⟩⟩
 exact ⟨hres,hres⟩
theorem last_ok {P:Program} {fn:Func} {m0 n:Nat} {w:World} {β0:Env} {res:SV} {outs:List (Nat × Ob)} {Ns:List (Nat × Nat)} {m:Nat} {C:Cf P} {p:Code × List Kf} (hm:P.follows .mixedOrders=true)
  (he:∀ β,Eqs.ok (lastE P fn m0 n res outs (runP P m0 n Ns m (some p.1) (.lp p.1::p.2) C) β)):HdOk P m0 n w.heap.size w β0 (bodyPost P fn (Said P fn m0 res outs β0 w)) C p:=by
 intro β a w1 hβ hs
 cases hr:runP P m0 n Ns m (some p.1) (.lp p.1::p.2) C with
 | none=>have:=he idE; rw [hr] at this; exact (Eqs.no_ok this).elim
 | some s =>
  rw [hr] at he
  cases s with
  | head c ks f=>exact (Eqs.no_ok (he idE)).elim
  | ended f =>
   obtain ⟨hg,hw⟩:=fin1_parts he
   obtain ⟨_,_,r3⟩:=runP_ok hm _ _ _ _ _ hr ⟨hs.q,hs.uq⟩
   exact rounds_one (r3 hg hs _ fun β' a' w' e s'=>hw (fun k hk=>(e k hk).trans (hβ k hk)) s')
def startP (P:Program) (fn:Func) (args:List SV) (obs:List Ob) (evs:List (Ev P)) (Ns:List (Nat × Nat)) (m:Nat):Option (Stop P):=match fn.body with
 | some c=>runP P obs.length (sizeS fn args) Ns m (some c) [] ⟨startS args 0,fun k=>Nat.blt k obs.length,obs,evs,[]⟩
 | none=>none
theorem sx_cut {P:Program} {f:FuncId} {fn:Func} (args:List SV) (obs:List Ob) (evs ev:List (Ev P)) (Ns:List (Nat × Nat)) (m:Nat) (res:SV) (outs:List (Nat × Ob)) (hf:P.funcs[f]?=some fn) (hm:P.follows .mixedOrders=true) {u:Nat} {sl:List (Nat × SV)} {ob:List Ob} {σ:List Nat} {p':Code × List Kf}
  (hp:(startP P fn args obs evs Ns m).bind Stop.pos=some p') (he:∀ β,Eqs.ok (pieceE P obs.length (sizeS fn args) (startP P fn args obs evs Ns m) u sl ob σ β))
  (hargs:args.all (SV.of fun k=>Nat.blt k obs.length)=true) (hobs:obs.all (fun x=>x.of (fun k=>Nat.blt k obs.length)&&x.own)=true) (β:Env) (w:World) (hh:∀ (k:Nat) (o:Ob),obs[k]?=some o→o.holds β w (β k))
  (hH:HdOk P obs.length (sizeS fn args) w.heap.size w β (bodyPost P fn (Said P fn obs.length res outs β w)) (mkC P (sizeS fn args) u sl ob ev) p') :
  Calls P f (args.map (SV.den β)).toArray w (Said P fn obs.length res outs β w):=by
 have hnal:∀ (k r:Nat) (D:Thing),obs[k]?≠some (.al r D):=fun k r D ho=>by
  have:=List.all_eq_true.1 hobs _ (List.mem_of_getElem? ho)
  simp [Ob.own] at this
 have huq:UniqAl obs:=fun k j i D _ h1 _=>absurd h1 (hnal k i D)
 have hlt:∀ k,k<obs.length→∀ c,(β k).F c→c<w.heap.size:=fun k hk c hc=>by
  have h:=hh k _ (List.getElem?_eq_getElem hk)
  cases hx:obs[k] with
  | box cs t=>rw [hx] at h; rw [(h.1.1 c).1 hc]; exact heap_lt h.2
  | th D=>rw [hx] at h; exact D.st.lt _ _ h c hc
  | al r D=>rw [hx] at h; exact D.st.lt _ _ h c hc
  | pl n=>rw [hx] at h; rw [(h.1.1 c).1 hc]; exact h.2.lt
  | row cs t n sz=>rw [hx] at h; rw [(h.1.1 c).1 hc]; exact heap_lt h.2.choose_spec.1
  | ow D t=>rw [hx] at h; exact D.st.lt _ _ h.2 c hc
  | dead =>
   have:=List.all_eq_true.1 hobs _ (List.mem_of_getElem? (List.getElem?_eq_getElem hk))
   rw [hx] at this
   simp [Ob.own] at this
 cases hb:fn.body with
 | none=>unfold startP at hp; rw [hb] at hp; cases hp
 | some c =>
  have hst:startP P fn args obs evs Ns m=runP P obs.length (sizeS fn args) Ns m (some c) [] ⟨startS args 0,fun k=>Nat.blt k obs.length,obs,evs,[]⟩:=by unfold startP; rw [hb]
  rw [hst] at hp he
  cases hr:runP P obs.length (sizeS fn args) Ns m (some c) [] ⟨startS args 0,fun k=>Nat.blt k obs.length,obs,evs,[]⟩ with
  | none=>rw [hr] at hp; cases hp
  | some s =>
   rw [hr] at hp he
   cases s with
   | ended f=>cases hp
   | head c1 ks1 f1 =>
    obtain rfl:(c1,ks1)=p':=Option.some.inj hp
    obtain ⟨hg,hw⟩:=pieceE_parts ev he
    obtain ⟨_,_,r3⟩:=runP_ok hm _ _ _ _ _ hr ⟨fun k=>by dsimp only; rw [Nat.blt_eq],huq⟩
    refine calls_of_wp hf hb (r3 hg (B0:=bd0 w.heap.size obs.length) (w0:=w) (β:=β) ⟨⟨Keep.refl _ _,Nat.le_refl _,fun k o hk ho=>⟨hh k o ho,(Bool.and_eq_true _ _▸List.all_eq_true.1 hobs o (List.mem_of_getElem? ho)).1⟩,fun k hk=>hlt k (by simpa [Nat.blt_eq] using hk),fun k j hk _ _ hm=>?_,fun k _ hk hm=>?_,fun k hk hm=>?_,fun i hi=>by rw [Nat.blt_eq]; exact hi,fun k r D _ ho=>?_,fun k r D _ ho=>absurd ho (hnal k r D),fun k i _ hi _ hm=>by rw [Nat.blt_eq] at hi; omega⟩,fun k=>by dsimp only; rw [Nat.blt_eq],⟨?_,fun t=>?_⟩,fun t=>?_,⟨Nat.le_refl _,Nat.le_refl _⟩,rfl,huq⟩ _ fun β' a' w' e s=>?_)
    · rw [Nat.blt_eq] at hk; omega
    · rw [Nat.blt_eq] at hk; omega
    · rw [Nat.blt_eq] at hk; omega
    · exact absurd ho (hnal k r D)
    · simp [sizeS]
    · rw [look_start,if_pos (Nat.zero_le _),Nat.sub_zero]
      simp only [Array.getD_eq_getD_getElem?,Array.getElem?_append,List.size_toArray,List.length_map,List.getElem?_toArray,List.getElem?_map]
      split
      · rename_i hlt2
        rw [List.getElem?_eq_getElem hlt2]
        rfl
      · rename_i hge
        rw [List.getElem?_eq_none (by omega)]
        simp [Array.getElem?_replicate]
        split<;>rfl
    · dsimp only
      rw [look_start,if_pos (Nat.zero_le _),Nat.sub_zero]
      cases hx:args[t]? with
      | none=>rfl
      | some x=>exact List.all_eq_true.1 hargs x (List.mem_of_getElem? hx)
    · obtain ⟨β'',e2,s2⟩:=hw s
      exact hH β'' a' w' (fun k hk=>(e2 k hk).trans (e k hk)) s2
end Go.Proofs.YtpccljaooghafaaGreat.Y
end
section
namespace Go.Proofs.YtpccljaooghafaaGreat.Y
open Go Go.RowKit
set_option maxRecDepth 100000
def tcQ (f g:RQ):RQ:=pls f g (-(fpr f g)) (fpr f f)
section
variable {f g:RQ} (hf:RSz 64 f) (hg:RSz 64 g)
include hf hg in
theorem tc_pls:RSz 2000 (tcQ f g):=(pls_sz hf hg (fpr_sz hf hg).neg (fpr_sz hf hf)).mono (by decide)
noncomputable def tcE:List (Ev Tryz.prog) :=
 [mkR,(sMtProd (hf.mono (by decide)) (hg.mono (by decide))).e,fNeg (fpr f g),(sMtProd (hf.mono (by decide)) (hf.mono (by decide))).e,(sMtPlus (hf.mono (by decide)) (hg.mono (by decide)) ((fpr_sz hf hg).neg.mono (by decide)) ((fpr_sz hf hf).mono (by decide))).e]
noncomputable def sTouchInf (h:decide ((tcQ f g).a=0)=true):Spec Tryz.prog :=
 Spec.auto Tryz.call248 [rgV 0,rgV 4] (rgT f++rgT g) (.one (.a [.b (.v (.bool true)),.b (.v (.pointer none)),.b (.v (.pointer none))])) [] (tcE hf hg++sgR 20 h) [(1,12)] 800 Tryz.func248 hmA (by kernel_rfl) (fun β=>by kernel_rfl)
end
def rcQ (f:RQ):GQ:=gscale ⟨-f.b.re,f.b.im⟩ (Rat.divInt 1 1/f.a)
theorem rgJ {j:Nat} {x:Rat} (h:Sz j x):GSz (j+1) (rg x):=⟨h.mono (by omega),sz_zero.mono (by omega)⟩
section
variable {j:Nat} {f:RQ} (hf:RSz j f) (hj:j≤100000)
include hf in
theorem wymJ:GSz (2*j+5) (gmul (rg f.b.im) (gint 0 1)):=((rgJ hf.b.2).mul gi_sz).mono (by omega)
include hf in
theorem wy0J:GSz (3*j+7) (wy0 f):=((rgJ hf.b.1).add (wymJ hf)).mono (by omega)
include hf in
theorem wayJ:GSz (3*j+7) (wayQ f):=(wy0J hf).conj
include hf in
theorem cenJ (h0:f.a≠0):GSz (4*j+7) (cenQ f):=((wy0J hf).conj.neg.scale (hf.a.inv h0)).mono (by omega)
theorem leKM {a:Nat} (h:a≤1000000):a≤KM:=Nat.le_trans h (by decide)
theorem leKB {a:Nat} (h:a≤1000000):a≤KB:=Nat.le_trans h (by decide)
noncomputable def wyJE:List (Ev Tryz.prog):=[(sERealG f.b.re).e,(sERealG f.b.im).e,(sInt 0 1 (by decide) (by decide)).e,(sMul ((rgJ hf.b.2).mono (leKM (by omega))) (gi_sz.mono (by decide))).e,(sAdd ((rgJ hf.b.1).mono (leKM (by omega))) ((wymJ hf).mono (leKM (by omega)))).e]
noncomputable def sCentreJ (h0:f.a≠0):Spec Tryz.prog :=
 Spec.auto Tryz.call356 [rgV 0] (rgT f) (nV 4) (gT (cenQ f))
  (wyJE hf hj++[(sConj (wy0 f)).e,(sNeg (gconj (wy0 f))).e,mkR,fInv (hf.a.mono (leKB (by omega))) h0,(sScale ((wy0J hf).conj.neg.mono (leKB (by omega))) ((hf.a.inv h0).mono (leKB (by omega)))).e])
  [(1,10),(2,8)] 800 Tryz.func356 hmA (by kernel_rfl) (fun β=>by kernel_rfl)
end
section
variable {f g:RQ} (hf:RSz 64 f) (hg:RSz 64 g)
noncomputable def sTouchFin (h:decide ((tcQ f g).a=0)=false):Spec Tryz.prog :=
 Spec.auto Tryz.call248 [rgV 0,rgV 4] (rgT f++rgT g) (.one (.a [.b (.v (.bool false)),.b (.z 8 0),.b (.z 9 0)])) (gT (cenQ (tcQ f g)))
  (tcE hf hg++sgR 20 h++[(sCentreJ (tc_pls hf hg) (by decide) (of_decide_eq_false h)).e]) [(1,12)] 800 Tryz.func248 hmA (by kernel_rfl) (fun β=>by kernel_rfl)
end
abbrev KL:Nat:=140
abbrev KK:Nat:=64
section
variable {l k:RQ} (hl:RSz KL l) (hk:RSz KK k) (h0:k.a≠0) (hn:cuN l≠0)
include hl hk h0 in
theorem dP_sz:GSz 1400 (cuP l k):=((cenJ hk h0).mul (wayJ hl).conj).mono (by decide)
include hl hk h0 in
theorem dV_sz:Sz 1545 (cuV l k):=(((dP_sz hl hk h0).1.mul i21_sz).add hl.c).mono (by decide)
include hl in
theorem dN_sz:Sz 1710 (cuN l):=(wayJ hl).norm.mono (by decide)
include hk h0 in
theorem dR_sz:Sz 660 (cuR k):=(div_sz (fpr_sz hk hk) (hk.a.mul hk.a) (mul_ne h0 h0)).mono (by decide)
include hl hk h0 hn in
theorem dW_sz:Sz 4802 (cuV l k*cuV l k/(cuN l*i41)):=(div_sz ((dV_sz hl hk h0).mul (dV_sz hl hk h0)) ((dN_sz hl).mul i41_sz) (mul_ne hn i41_ne)).mono (by decide)
include hl hk h0 hn in
theorem dX_sz:Sz 7173 (cuX l k):=(div_sz ((dR_sz hk h0).sub (dW_sz hl hk h0 hn)) (dN_sz hl) hn).mono (by decide)
end
theorem rootB_of {x:Rat} (h0:0≤x.num) (hx:Sz 7173 x):∃ a b:Nat,RootB x x.num.natAbs x.den a b:=by
 have key:∀ J:Nat,J≤7173→∀ n:Nat,sz (n:Int)≤J→∃ a:Nat,a*a≤n∧n<(a+1)*(a+1)∧sz (a:Int)≤KS:=fun J hJ n hn=>by
  refine ⟨n.sqrt,Nat.sqrt_le n,Nat.lt_succ_sqrt n,?_⟩
  have h1:n<256^J:=by have:=sz_le.1 hn; rwa [Int.natAbs_natCast] at this
  refine sz_le.2 ?_
  rw [Int.natAbs_natCast]
  obtain ⟨K,hK⟩:∃ K:Nat,K=KS:=⟨_,rfl⟩
  rw [← hK]
  rcases Nat.lt_or_ge n.sqrt (256^K) with h | h
  · exact h
  · exfalso
    have h2:=Nat.mul_le_mul h h
    rw [← Nat.pow_add] at h2
    have h3:=Nat.sqrt_le n
    have h4:256^J≤256^(K+K):=Nat.pow_le_pow_right (by decide) (Nat.le_trans hJ (by rw [hK]; decide))
    exact absurd (Nat.lt_of_le_of_lt (Nat.le_trans h2 h3) h1) (Nat.not_lt.2 h4)
 obtain ⟨a,a1,a2,a3⟩:=key 7173 (Nat.le_refl _) x.num.natAbs (by rw [Int.natAbs_of_nonneg h0]; exact hx.1)
 obtain ⟨b,b1,b2,b3⟩:=key 7173 (Nat.le_refl _) x.den hx.2
 have hp:=x.den_pos
 have hb0:(b:Int)≠0:=by
  rintro e
  obtain rfl:b=0:=by omega
  have:x.den<1:=b2
  omega
 obtain ⟨J,hJ⟩:∃ J:Nat,J=7173:=⟨_,rfl⟩
 have l1:x.num.natAbs<256^J:=sz_le.1 (by rw [hJ]; exact hx.1)
 have l2:x.den<256^J:=by have:=sz_le.1 (show sz (x.den:Int)≤J by rw [hJ]; exact hx.2); rwa [Int.natAbs_natCast] at this
 exact ⟨a,b,(Int.natAbs_of_nonneg h0).symm,rfl,a1,a2,b1,b2,dig_big l1 (by rw [hJ]; decide),dig_big l2 (by rw [hJ]; decide),hb0,a3,b3⟩
def lnD (f g:RQ):Rat:=f.b.im*g.b.re-f.b.re*g.b.im
def lnV (f g:RQ) (x y:Rat):Rat:=(y*f.c-x*g.c)/(lnD f g*i21)
def lnZ (f g:RQ):GQ:=gadd (rg (lnV f g f.b.im g.b.im)) (gmul (rg (lnV f g f.b.re g.b.re)) (gint 0 1))
section
variable {f g:RQ} (hf:RSz 64 f) (hg:RSz 64 g) (h0:lnD f g≠0)
include hf hg in
theorem lnD_sz:Sz 257 (lnD f g):=((hf.b.2.mul hg.b.1).sub (hf.b.1.mul hg.b.2)).mono (by decide)
include hf hg h0 in
theorem lnV_sz {x y:Rat} (hx:Sz 64 x) (hy:Sz 64 y):Sz 515 (lnV f g x y):=(div_sz ((hy.mul hf.c).sub (hx.mul hg.c)) ((lnD_sz hf hg).mul i21_sz) (mul_ne h0 i21_ne)).mono (by decide)
abbrev lnOb (f g:RQ):List Ob:=[(ratT f.a).ob,(ratT f.b.re).ob,(ratT f.b.im).ob,(ratT f.c).ob,(ratT g.a).ob,(ratT g.b.re).ob,(ratT g.b.im).ob,(ratT g.c).ob,(ratT (lnD f g)).ob,.box [.b (.z 4 0),.b (.z 5 0),.b (.z 6 0),.b (.z 7 0)] FRT,.box [.b (.z 0 0),.b (.z 1 0),.b (.z 2 0),.b (.z 3 0)] FRT,.box [.b (.z 8 0)] PRT]
noncomputable def lnsV {x y:Rat} (hx:Sz 64 x) (hy:Sz 64 y):List (Ev Tryz.prog) :=
 [(sMtMul (hy.mono (by decide)) (hf.c.mono (by decide))).e,(sMtMul (hx.mono (by decide)) (hg.c.mono (by decide))).e,(sMtSub ((hy.mul hf.c).mono (by decide)) ((hx.mul hg.c).mono (by decide))).e,(sMtNum 2).e,(sMtMul ((lnD_sz hf hg).mono (by decide)) (i21_sz.mono (by decide))).e,
  (sMtQuo (((hy.mul hf.c).sub (hx.mul hg.c)).mono (by decide)) (((lnD_sz hf hg).mul i21_sz).mono (by decide)) (mul_ne h0 i21_ne)).e]
abbrev lnA (i:Int):List SV:=[.one (svI i),.one (.c (.b (.p 9 0))),.one (.c (.b (.p 10 0))),.one (.c (.b (.p 11 0)))]
noncomputable def sLn2:OSpec Tryz.prog :=
 OSpec.auto Tryz.call358 (lnA 2) (lnOb f g) (rV 12) [lnV f g f.b.im g.b.im] (lnsV hf hg h0 hf.b.2 hg.b.2) [(1,14),(2,6)] 800 Tryz.func358 hmA (by kernel_rfl) (fun β=>by kernel_rfl)
noncomputable def sLn1:OSpec Tryz.prog :=
 OSpec.auto Tryz.call358 (lnA 1) (lnOb f g) (rV 12) [lnV f g f.b.re g.b.re] (lnsV hf hg h0 hf.b.1 hg.b.1) [(1,14),(2,6)] 800 Tryz.func358 hmA (by kernel_rfl) (fun β=>by kernel_rfl)
noncomputable def lnsE:List (Ev Tryz.prog) :=
 have h2:=lnV_sz hf hg h0 hf.b.2 hg.b.2
 have h1:=lnV_sz hf hg h0 hf.b.1 hg.b.1
 [(sMtMul (hf.b.2.mono (by decide)) (hg.b.1.mono (by decide))).e,(sMtMul (hf.b.1.mono (by decide)) (hg.b.2.mono (by decide))).e,(sMtSub ((hf.b.2.mul hg.b.1).mono (by decide)) ((hf.b.1.mul hg.b.2).mono (by decide))).e,(sLn2 hf hg h0).e,(sERealG (lnV f g f.b.im g.b.im)).e,(sLn1 hf hg h0).e,(sERealG (lnV f g f.b.re g.b.re)).e,(sInt 0 1 (by decide) (by decide)).e,
  (sMul ((rgJ h1).mono (by decide)) (gi_sz.mono (by decide))).e,(sAdd ((rgJ h2).mono (by decide)) (((rgJ h1).mul gi_sz).mono (by decide))).e]
def lnO (z:GQ):List (Nat × Ob):=[(27,.box [.b (.v (.bool false)),.b (.z 24 0),.b (.z 25 0),.b (.v (.bool true)),.b (.v (.pointer none)),.b (.v (.pointer none))] PLT),(24,(ratM z.re).ob),(25,(ratM z.im).ob)]
abbrev lnNs:List (Nat × Nat):=[(1,12)]
theorem lns_eqs (β:Env):(allS Tryz.prog Tryz.f249 [rgV 0,rgV 4] ((rgT f++rgT g).map Thing.ob) (lnsE hf hg h0) lnNs 800 (.one (.c (.b (.s 27 0 2 2)))) (lnO (lnZ f g)) β).map Prod.fst=(allS Tryz.prog Tryz.f249 [rgV 0,rgV 4] ((rgT f++rgT g).map Thing.ob) (lnsE hf hg h0) lnNs 800 (.one (.c (.b (.s 27 0 2 2)))) (lnO (lnZ f g)) β).map Prod.snd:=by kernel_rfl
end
abbrev plI (z:GQ):List Cd:=[.v (.bool false),.r z.re,.r z.im,.v (.bool true),.r 0,.r 0]
theorem lns_row {f g:RQ} {z:GQ} {evs:List (Ev Tryz.prog)} (h:∀ β,(allS Tryz.prog Tryz.f249 [rgV 0,rgV 4] ((rgT f++rgT g).map Thing.ob) evs lnNs 800 (.one (.c (.b (.s 27 0 2 2)))) (lnO z) β).map Prod.fst=(allS Tryz.prog Tryz.f249 [rgV 0,rgV 4] ((rgT f++rgT g).map Thing.ob) evs lnNs 800 (.one (.c (.b (.s 27 0 2 2)))) (lnO z) β).map Prod.snd)
  (β:Env) (w:World) (hh:∀ (i:Nat) (t:Thing),(rgT f++rgT g)[i]?=some t→t.D w (β i)) :
  Calls Tryz.prog 249 (([rgV 0,rgV 4]:List SV).map (SV.den β)).toArray w fun e u=>∃ xs:List Pl,freshS β w 8 xs∧e=.returned ((SV.one (.c (.b (.y 8 6 2)))).den (extE β 8 xs))∧newHold u [rowT PLT (plI z)] xs∧Below w.heap.size w u:=by
 refine (sx (P:=Tryz.prog) [rgV 0,rgV 4] ((rgT f++rgT g).map Thing.ob) evs lnNs 800 (.one (.c (.b (.s 27 0 2 2)))) (lnO z) Tryz.func249 hmA (fun β=>ok_of_maps (h β)) (by kernel_rfl) (by kernel_rfl) β w (fun i o ho=>?_)).mono ?_
 · rw [List.getElem?_map] at ho
   cases hx:(rgT f++rgT g)[i]? with
   | none=>rw [hx] at ho; cases ho
   | some t=>rw [hx] at ho; obtain rfl:=Option.some.inj ho; exact hh i t hx
 · rintro e u ⟨β',q',obj,e1,rfl,e2,e4,e5,g0⟩
   have hor:∀ (i:Nat) (x:Rat),(i,(ratM x).ob)∈lnO z→OR0 x u (β' i):=fun i x hi=>e5 _ hi
   have o1:=hor 24 z.re (by simp [lnO])
   have o2:=hor 25 z.im (by simp [lnO])
   obtain ⟨hone,hcur⟩:=e5 _ (List.mem_cons_self ..)
   dsimp only at hone hcur
   refine ⟨[⟨(β' 27).b,fun i=>match i with | 1=>(β' 24).v 0 | 2=>(β' 25).v 0 | 6=>some ⟨(β' 27).b,0,none⟩ | _=>none,fun _=>2,fun c=>c=(β' 27).b∨(β' 24).F c∨(β' 25).F c,fun _=>undef⟩],fun x hx c hc=>?_,rfl,⟨⟨⟨.inl rfl,_,hcur,rfl⟩,⟨⟨trivial,or_cd o1 rfl fun c hc=>.inr (.inl hc),or_cd o2 rfl fun c hc=>.inr (.inr hc),trivial,.inl ⟨rfl,rfl⟩,.inl ⟨rfl,rfl⟩,trivial⟩,rfl⟩,fun c hc=>?_⟩,trivial⟩,g0.bel⟩
   · obtain rfl:=List.mem_singleton.1 hx
     have h4:∀ p∈lnO z,∀ c,(β' p.1).F c→w.heap.size≤c∨∃ i,i<8∧(β i).F c:=e4
     rcases hc with rfl | hc | hc
     · exact h4 _ (List.mem_cons_self ..) _ ((hone.1 _).2 rfl)
     · exact h4 (24,(ratM z.re).ob) (by simp [lnO]) c hc
     · exact h4 (25,(ratM z.im).ob) (by simp [lnO]) c hc
   · rcases hc with rfl | hc | hc
     · exact heap_lt hcur
     · exact (or_stable _).lt u _ o1 c hc
     · exact (or_stable _).lt u _ o2 c hc
noncomputable def sLines {f g:RQ} (hf:RSz 64 f) (hg:RSz 64 g) (h0:lnD f g≠0):Spec Tryz.prog :=
 ⟨249,Tryz.call249,[rgV 0,rgV 4],rgT f++rgT g,.one (.c (.b (.y 8 6 2))),[rowT PLT (plI (lnZ f g))],lns_row (lns_eqs hf hg h0),by kernel_rfl⟩
theorem wy0_eq (f:RQ):wy0 f=f.b:=by
 have h0:(gint 0 1)=⟨0,1⟩:=gint01
 unfold wy0
 rw [h0]
 refine GQ.ext2 ?_ ?_<;>(simp only [gadd,gmul,rg]; grind)
theorem cen_eq (f:RQ):cenQ f=rcQ f:=by
 have h1:(Rat.divInt 1 1:Rat)=1:=of_decide_eq_true (by kernel_rfl:decide ((Rat.divInt 1 1:Rat)=1)=true)
 unfold cenQ rcQ
 rw [wy0_eq,Rat.div_def,h1]
 refine GQ.ext2 ?_ ?_<;>(simp only [gscale,gneg,gconj]; grind)
theorem way_eq (f:RQ):wayQ f=gconj f.b:=by rw [wayQ,wy0_eq]
theorem sq_pow (q:Rat):q*q=q^2:=by
 rw [Rat.pow_succ,Rat.pow_succ,Rat.pow_zero,Rat.one_mul]
theorem sq_num (q:Rat):(q*q).num=q.num*q.num∧(q*q).den=q.den*q.den:=by
 rw [sq_pow]
 refine ⟨?_,?_⟩
 · rw [Rat.num_pow,Int.pow_succ,Int.pow_succ,Int.pow_zero,Int.one_mul]
 · rw [Rat.den_pow,Nat.pow_succ,Nat.pow_succ,Nat.pow_zero,Nat.one_mul]
theorem gram_id {X N a R h V F p:Rat} (e1:X*N=R-h) (e2:R*(a*a)=F) (e3:h*(N*4)=V*V) (e4:V*a = -2*p):X*(N*a*(N*a))=N*F-p*p:=by grind
theorem sq_nonneg (x:Rat):0≤x*x:=by
 by_cases h:0≤x
 · exact Rat.mul_nonneg h h
 · have:=Rat.mul_nonneg (a:=-x) (b:=-x) (by grind) (by grind)
   grind
theorem pos_of_mul {x y:Rat} (h:0<x*(y*y)):0<x:=by
 by_cases h1:0<x
 · exact h1
 · exfalso
   have:=Rat.mul_nonneg (a:=-x) (b:=y*y) (by grind) (sq_nonneg y)
   grind
theorem i21v:i21=2:=of_decide_eq_true (by kernel_rfl:decide (i21=2)=true)
theorem i41v:i41=4:=of_decide_eq_true (by kernel_rfl:decide (i41=4)=true)
theorem div11v:(Rat.divInt 1 1:Rat)=1:=of_decide_eq_true (by kernel_rfl:decide ((Rat.divInt 1 1:Rat)=1)=true)
theorem mdiv11v:(Rat.divInt (-1) 1:Rat) = -1:=of_decide_eq_true (by kernel_rfl:decide ((Rat.divInt (-1) 1:Rat) = -1)=true)
theorem fpr_two (f g:RQ):2*fpr f g=2*(f.b.re*g.b.re+f.b.im*g.b.im)-(f.a*g.c+f.c*g.a):=by
 have h:(Rat.divInt 2 1:Rat)=2:=i21v
 unfold fpr
 rw [h]
 grind
theorem rc_a {f:RQ} (h0:f.a≠0):(rcQ f).re*f.a = -f.b.re∧(rcQ f).im*f.a=f.b.im:=by
 have h1:(Rat.divInt 1 1/f.a)*f.a=1:=by rw [div11v,Rat.div_mul_cancel h0]
 unfold rcQ gscale
 dsimp only
 exact ⟨by rw [Rat.mul_assoc,h1,Rat.mul_one],by rw [Rat.mul_assoc,h1,Rat.mul_one]⟩
theorem cuN_eq (l:RQ):cuN l=l.b.re*l.b.re+l.b.im*l.b.im:=by
 unfold cuN
 rw [way_eq]
 unfold gnorm gconj
 grind
theorem cuV_eq (l k:RQ):cuV l k=2*((rcQ k).re*l.b.re-(rcQ k).im*l.b.im)+l.c:=by
 unfold cuV cuP
 rw [way_eq,cen_eq,i21v]
 unfold gmul gconj
 grind
theorem cuV_a {l k:RQ} (ha:l.a=0) (h0:k.a≠0):cuV l k*k.a = -2*fpr l k:=by
 obtain ⟨h1,h2⟩:=rc_a h0
 have h3:=fpr_two l k
 rw [cuV_eq]
 rw [ha] at h3
 grind
theorem cut_gram {l k:RQ} (ha:l.a=0) (h0:k.a≠0) (hn:cuN l≠0):cuX l k*(cuN l*k.a*(cuN l*k.a))=cuN l*fpr k k-fpr l k*fpr l k:=by
 refine gram_id (R:=cuR k) (h:=cuV l k*cuV l k/(cuN l*i41)) (V:=cuV l k) ?_ ?_ ?_ (cuV_a ha h0)
 · unfold cuX; rw [Rat.div_mul_cancel hn]
 · unfold cuR; rw [Rat.div_mul_cancel (by intro e; rcases Rat.mul_eq_zero.1 e with h | h<;>exact h0 h)]
 · have h4:cuN l*i41≠0:=by
    rw [i41v]
    intro e
    rcases Rat.mul_eq_zero.1 e with h | h
    · exact hn h
    · exact absurd h (by decide)
   rw [← i41v,Rat.div_mul_cancel h4]
theorem fpr_line {l:RQ} (ha:l.a=0):fpr l l=cuN l:=by
 have h:=fpr_two l l
 rw [cuN_eq]
 rw [ha] at h
 grind
theorem ax_a {f g:RQ} (ha:f.a=g.a):(axQ f g).a=0:=by
 unfold axQ pls
 rw [div11v,mdiv11v,ha]
 grind
theorem ax_ff (f g:RQ):fpr (axQ f g) (axQ f g)=fpr f f-2*fpr f g+fpr g g∧fpr (axQ f g) f=fpr f f-fpr f g:=by
 have h:(Rat.divInt 2 1:Rat)=2:=i21v
 unfold fpr axQ pls
 rw [div11v,mdiv11v,h]
 constructor<;>grind
theorem gram_lines {f g:RQ} (ha:f.a=0) (hb:g.a=0):fpr f f*fpr g g-fpr f g*fpr f g=lnD f g*lnD f g:=by
 have h:(Rat.divInt 2 1:Rat)=2:=i21v
 unfold fpr lnD
 rw [ha,hb,h]
 grind
theorem gram_pos {f g:RQ} (hf:0<fpr f f) (hg:0<fpr g g) (hc:cmpQ (fsq f g) one1 = -1):fpr f g*fpr f g<fpr f f*fpr g g:=by
 unfold cmpQ at hc
 split at hc
 · rename_i h
   unfold fsq at h
   have h1:one1=1:=div11v
   rw [h1,Rat.div_lt_iff (Rat.mul_pos hf hg),Rat.one_mul] at h
   exact h
 · split at hc<;>exact absurd hc (by decide)
theorem cross_line {l k:RQ} (ha:l.a=0) (h0:k.a≠0) (hl:0<fpr l l) (h:fpr l k*fpr l k<fpr l l*fpr k k):cuN l≠0∧0<cuX l k:=by
 have hn:cuN l≠0:=by rw [← fpr_line ha]; grind
 have hg:=cut_gram ha h0 hn
 rw [← fpr_line ha] at hg
 refine ⟨hn,pos_of_mul (y:=cuN l*k.a) ?_⟩
 rw [← fpr_line ha,hg]
 grind
theorem cross_two {f g:RQ} (ha:f.a=g.a) (h0:f.a≠0) (h:fpr f g*fpr f g<fpr f f*fpr g g):0<fpr (axQ f g) (axQ f g)∧cuN (axQ f g)≠0∧0<cuX (axQ f g) f:=by
 have la:=ax_a ha
 obtain ⟨e1,e2⟩:=ax_ff f g
 have hN:=fpr_line la
 have hge:0≤cuN (axQ f g):=by
  rw [cuN_eq]
  have h1:=sq_nonneg (axQ f g).b.re
  have h2:=sq_nonneg (axQ f g).b.im
  grind
 have hgr:fpr (axQ f g) f*fpr (axQ f g) f<fpr (axQ f g) (axQ f g)*fpr f f:=by
  rw [e1,e2]
  grind
 have hne:fpr (axQ f g) (axQ f g)≠0:=by
  intro e
  rw [e,Rat.zero_mul] at hgr
  have:=sq_nonneg (fpr (axQ f g) f)
  grind
 have hp:0<fpr (axQ f g) (axQ f g):=by rw [hN] at hne ⊢; grind
 exact ⟨hp,cross_line la h0 hp hgr⟩
def xN (l:RQ):Rat:=gnorm l.b
def xV (l k:RQ):Rat:=l.a*gnorm (rcQ k)+((gmul l.b (rcQ k)).re+(gmul l.b (rcQ k)).re)+l.c
def xH (l k:RQ):Rat:=xV l k*xV l k/(i41*xN l)
def xX (l k:RQ):Rat:=(cuR k-xH l k)/xN l
theorem eq_of_mul {x y z:Rat} (hz:z≠0) (h:x*z=y*z):x=y:=by
 have:(x-y)*z=0:=by grind
 rcases Rat.mul_eq_zero.1 this with h | h
 · grind
 · exact absurd h hz
section
variable {l k:RQ} (ha:l.a=0) (hn:cuN l≠0) {y:Rat} (hy:y≠0)
theorem inv_ne {y:Rat} (hy:y≠0):y⁻¹≠0:=by
 intro e
 have:=Rat.mul_inv_cancel y hy
 rw [e,Rat.mul_zero] at this
 exact absurd this (by decide)
end
theorem two_ne {F:GQ} {l:RQ} {t:Rat} (hn:cuN l≠0) (ht:t≠0):gadd F (cuB l t)≠gsub F (cuB l t):=by
 intro e
 unfold cuB at e
 rw [way_eq,gint01] at e
 unfold gadd gsub gscale gmul gconj at e
 dsimp only at e
 injection e with e1 e2
 rw [cuN_eq] at hn
 have h1:l.b.im*t=0:=by grind
 have h2:l.b.re*t=0:=by grind
 rcases Rat.mul_eq_zero.1 h1 with h | h
 · rcases Rat.mul_eq_zero.1 h2 with h' | h'
   · rw [h,h'] at hn; exact hn (by grind)
   · exact ht h'
 · exact ht h
end Go.Proofs.YtpccljaooghafaaGreat.Y
end
