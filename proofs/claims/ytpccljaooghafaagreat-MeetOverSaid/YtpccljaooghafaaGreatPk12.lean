/- MtA, MtB, MtC, MtD, MtE, SyM, SyN. -/
import Derived.Test.YtpccljaooghafaaGreatPk11
set_option linter.unnecessarySimpa false
set_option linter.unusedVariables false
set_option linter.unusedSimpArgs false
section
namespace Go.Proofs.YtpccljaooghafaaGreat.Y
open Go Go.RowKit
set_option maxRecDepth 100000
def any4:List Thing:=[anyT,anyT,anyT,anyT]
abbrev rx0:SC:=.a [.b (.v (.pointer none)),.b (.v (.pointer none)),.b (.v (.pointer none)),.b (.v (.pointer none))]
abbrev rgC (k:Nat):SC:=.a [.b (.z k 0),.b (.z (k+1) 0),.b (.z (k+2) 0),.b (.z (k+3) 0)]
def WheelNo (l:List Lf):Prop:=∀ (β:Env) (w:World),Calls Tryz.prog 234 (([.one (.a l)]:List SV).map (SV.den β)).toArray w fun e w'=>∃ xs:List Pl,freshS β w 0 xs∧e=.returned ((SV.tup [rgC 0,.c (.b (.v (.bool false)))]).den (extE β 0 xs))∧newHold w' any4 xs∧Below w.heap.size w w'
def sWheelNo {l:List Lf} (h:WheelNo l) (hl:l.all (Lf.of fun _=>false)=true):Spec Tryz.prog :=
 ⟨234,Tryz.call234,[.one (.a l)],[],.tup [rgC 0,.c (.b (.v (.bool false)))],any4,fun β w _=>h β w,by
  have:l.all (Lf.of fun k=>Nat.blt k 0)=true:=List.all_eq_true.2 fun x hx=>Lf.of_mono (fun _ hk=>by cases hk) x (List.all_eq_true.1 hl x hx)
  rw [Bool.and_eq_true]
  exact ⟨by rw [List.all_cons,List.all_nil,Bool.and_true]; exact this,by kernel_rfl⟩⟩
theorem nil4 {P:Program} {f:FuncId} {args:Array Value} {w:World} {β:Env}
  (h:Calls P f args w fun e w'=>∃ xs:List Pl,freshS β w 0 xs∧e=.returned ((SV.tup [rx0,.c (.b (.v (.bool false)))]).den (extE β 0 xs))∧newHold w' [] xs∧Below w.heap.size w w') :
  Calls P f args w fun e w'=>∃ xs:List Pl,freshS β w 0 xs∧e=.returned ((SV.tup [rgC 0,.c (.b (.v (.bool false)))]).den (extE β 0 xs))∧newHold w' any4 xs∧Below w.heap.size w w' :=
 h.mono fun e w' ⟨xs,h1,he,h2,h3⟩=>by
  have hn:AN w' nilPl:=fun _ h=>h.elim
  exact ⟨[nilPl,nilPl,nilPl,nilPl],fun x hx c hc=>by
   simp only [List.mem_cons,List.not_mem_nil,or_false,or_self] at hx
   subst hx
   exact hc.elim,by rw [he]; kernel_rfl,⟨hn,hn,hn,hn,trivial⟩,h3⟩
theorem newHoldR4 {w:World} {t1 t2 t3 t4:Thing} {xs:List Pl} (h:newHold w [t1,t2,t3,t4] xs):newHold w any4 xs:=by
 match xs,h with
 | [a,b,c,d],h=>exact ⟨an_of t1.st h.1,an_of t2.st h.2.1,an_of t3.st h.2.2.1,an_of t4.st h.2.2.2.1,trivial⟩
theorem wheelNum (a:Fn) (b:Gn) (c:Fn) (h:(a.B&&(b.B&&c.B))=false):WheelNo (rL a.r++(rL b.x++rL b.y)++rL c.r):=fun β w=>by
 refine nil4 ?_
 have hh:∀ (k:Nat) (t:Thing),([]:List Thing)[k]?=some t→t.D w (β k):=fun k t h=>by simp at h
 cases b with
 | no g hg=>cases a with
  | ok x hx=>cases c with
   | ok y hy=>exact spec_auto (obs:=[]) (news:=[]) (res:=.tup [rx0,.c (.b (.v (.bool false)))]) (evs:=[(sOfW g.a g.b (r:=false) hg).e,(ratFn (.ok x hx)).e,(ratFn (.ok y hy)).e]) (Ns:=[(2,9),(5,5)]) (m:=800) Tryz.func234 hmA (fun β=>by kernel_rfl) (by kernel_rfl) β w hh
   | no k hk=>exact spec_auto (obs:=[]) (news:=[]) (res:=.tup [rx0,.c (.b (.v (.bool false)))]) (evs:=[(sOfW g.a g.b (r:=false) hg).e,(ratFn (.ok x hx)).e,(ratFn (.no k hk)).e]) (Ns:=[(2,9),(5,5)]) (m:=800) Tryz.func234 hmA (fun β=>by kernel_rfl) (by kernel_rfl) β w hh
  | no f hf=>cases c with
   | ok y hy=>exact spec_auto (obs:=[]) (news:=[]) (res:=.tup [rx0,.c (.b (.v (.bool false)))]) (evs:=[(sOfW g.a g.b (r:=false) hg).e,(ratFn (.no f hf)).e,(ratFn (.ok y hy)).e]) (Ns:=[(2,9),(5,5)]) (m:=800) Tryz.func234 hmA (fun β=>by kernel_rfl) (by kernel_rfl) β w hh
   | no k hk=>exact spec_auto (obs:=[]) (news:=[]) (res:=.tup [rx0,.c (.b (.v (.bool false)))]) (evs:=[(sOfW g.a g.b (r:=false) hg).e,(ratFn (.no f hf)).e,(ratFn (.no k hk)).e]) (Ns:=[(2,9),(5,5)]) (m:=800) Tryz.func234 hmA (fun β=>by kernel_rfl) (by kernel_rfl) β w hh
 | ok z hz=>cases a with
  | no f hf=>cases c with
   | ok y hy=>exact spec_auto (obs:=[]) (news:=[]) (res:=.tup [rx0,.c (.b (.v (.bool false)))]) (evs:=[(ofG hz).e,(sRatFn f hf).e,(ratFn (.ok y hy)).e]) (Ns:=[(2,9),(5,5)]) (m:=800) Tryz.func234 hmA (fun β=>by kernel_rfl) (by kernel_rfl) β w hh
   | no k hk=>exact spec_auto (obs:=[]) (news:=[]) (res:=.tup [rx0,.c (.b (.v (.bool false)))]) (evs:=[(ofG hz).e,(sRatFn f hf).e,(ratFn (.no k hk)).e]) (Ns:=[(2,9),(5,5)]) (m:=800) Tryz.func234 hmA (fun β=>by kernel_rfl) (by kernel_rfl) β w hh
  | ok x hx=>cases c with
   | ok=>cases h
   | no f hf=>exact spec_auto (obs:=[]) (news:=[]) (res:=.tup [rx0,.c (.b (.v (.bool false)))]) (evs:=[(ofG hz).e,(sRatIn hx).e,(sRatFn f hf).e,dEq x]) (Ns:=[(2,9),(5,5)]) (m:=800) Tryz.func234 hmA (fun β=>by kernel_rfl) (by kernel_rfl) β w hh
section
variable {r:RQ} (hf:FitC r)
include hf in
theorem fitC_sz:RSz KC r:=mk_sz hf.1 hf.2.1 hf.2.2
include hf in
theorem wheelPow (hp:decide ((rpow r).num.sign≤0)=true):WheelNo (cC r):=fun β w=>by
 refine nil4 ?_
 exact spec_auto (obs:=[]) (news:=[]) (res:=.tup [rx0,.c (.b (.v (.bool false)))]) (evs:=[(ofG hf.2.1).e,(sRatIn hf.1).e,(sRatIn hf.2.2).e,dEq r.a,dEq r.c,(sPower (fitC_sz hf)).e,nSign (x:=rpow r) rfl,.eqv 37 (.bool (decide ((rpow r).num.sign≤0))) (.bool true) (sgn_le hp)]) (Ns:=[(2,9),(5,5)]) (m:=1200) Tryz.func234 hmA (fun β=>by kernel_rfl) (by kernel_rfl) β w (fun k t h=>by simp at h)
theorem cmpQ_ne {x y:Rat} (h:x≠y):cmpQ x y = -1∨cmpQ x y=1:=by
 unfold cmpQ
 by_cases h1:x<y
 · exact .inl (if_pos h1)
 · by_cases h2:y<x
   · exact .inr (by rw [if_neg h1,if_pos h2])
   · exact absurd (Rat.le_antisymm (Rat.not_lt.1 h2) (Rat.not_lt.1 h1)) h
theorem gsub_ne {z w:GQ} (h:z≠w):gzero (gsub z w)=false:=by
 rw [Bool.eq_false_iff]
 intro e
 rw [gz_true] at e
 apply h
 have h1:=congrArg GQ.re e
 have h2:=congrArg GQ.im e
 simp only [gsub,g0] at h1 h2
 exact GQ.ext2 (by grind) (by grind)
theorem cmpQ_same {x y:Rat} (h:x=y):cmpQ x y=0:=by rw [h]; exact cmp_self y
abbrev smO (r s:RQ):List Thing:=rgT s++rgT r
theorem same_ok {r s:RQ} (h:RSz KC r) (k:RSz KC s) (hne:s≠r) (β:Env) (w:World) (hh:∀ (i:Nat) (t:Thing),(smO r s)[i]?=some t→t.D w (β i)) :
  Calls Tryz.prog 346 (([rgV 0,rgV 4]:List SV).map (SV.den β)).toArray w fun e w'=>∃ xs:List Pl,freshS β w 8 xs∧e=.returned ((tB' false:SV).den (extE β 8 xs))∧newHold w' [] xs∧Below w.heap.size w w':=by
 by_cases h1:s.a=r.a
 · by_cases h2:s.b=r.b
   · have h3:s.c≠r.c:=fun h3=>hne (by cases s; cases r; simp only at h1 h2 h3; subst h1 h2 h3; rfl)
     rcases cmpQ_ne h3 with h3 | h3<;>exact spec_auto (args:=[rgV 0,rgV 4]) (obs:=smO r s) (res:=tB' false) (news:=[]) (evs:=[nCmp (k.a.mono (by decide)) (h.a.mono (by decide)) (cmpQ_same h1),(sSame (k.b.mono (by decide)) (h.b.mono (by decide)) (b:=true) (by rw [h2]; exact gsub_self r.b)).e,nCmp (k.c.mono (by decide)) (h.c.mono (by decide)) h3]) (Ns:=[]) (m:=400) Tryz.func346 hmA (fun β=>by kernel_rfl) (by kernel_rfl) β w hh
   · exact spec_auto (args:=[rgV 0,rgV 4]) (obs:=smO r s) (res:=tB' false) (news:=[]) (evs:=[nCmp (k.a.mono (by decide)) (h.a.mono (by decide)) (cmpQ_same h1),(sSame (k.b.mono (by decide)) (h.b.mono (by decide)) (b:=false) (gsub_ne h2)).e]) (Ns:=[]) (m:=400) Tryz.func346 hmA (fun β=>by kernel_rfl) (by kernel_rfl) β w hh
 · rcases cmpQ_ne h1 with h1 | h1<;>exact spec_auto (args:=[rgV 0,rgV 4]) (obs:=smO r s) (res:=tB' false) (news:=[]) (evs:=[nCmp (k.a.mono (by decide)) (h.a.mono (by decide)) h1]) (Ns:=[]) (m:=400) Tryz.func346 hmA (fun β=>by kernel_rfl) (by kernel_rfl) β w hh
def sRSameNo {r s:RQ} (h:RSz KC r) (k:RSz KC s) (hne:s≠r):Spec Tryz.prog :=
 ⟨346,Tryz.call346,[rgV 0,rgV 4],smO r s,tB' false,[],same_ok h k hne,by kernel_rfl⟩
noncomputable def sRNorm2 {r:RQ} (h:RSz KC r) (hp:decide ((rpow r).num.sign≤0)=false):Spec Tryz.prog :=
 (sRNormal h rfl rfl (rby_ne hp)).newsTo (rgT (rone r)) rfl
theorem rone_sz2 {r:RQ} (h:FitC r) (hp:decide ((rpow r).num.sign≤0)=false):RSz KC (rone r) :=
 (rnm_sz (k:=1024) ⟨h.1.sz,h.2.1.gsz,h.2.2.sz⟩ (rby_sz ⟨h.1.sz,h.2.1.gsz,h.2.2.sz⟩ _ _) (rby_ne hp)).mono (by decide)
include hf in
theorem wheelOne (hp:decide ((rpow r).num.sign≤0)=false) (hne:rone r≠r):WheelNo (cC r):=fun β w=>by
 refine (spec_auto (obs:=[]) (news:=rgT r) (res:=.tup [rgC 0,.c (.b (.v (.bool false)))]) (evs:=[(ofG hf.2.1).e,(sRatIn hf.1).e,(sRatIn hf.2.2).e,dEq r.a,dEq r.c,(sPower (fitC_sz hf)).e,nSign (x:=rpow r) rfl,.eqv 37 (.bool (decide ((rpow r).num.sign≤0))) (.bool false) (sgn_le hp),(sRNorm2 (fitC_sz hf) hp).e,(sRSameNo (fitC_sz hf) (rone_sz2 hf hp) hne).e]) (Ns:=[(2,9),(5,5)]) (m:=1200) Tryz.func234 hmA (fun β=>by kernel_rfl) (by kernel_rfl) β w (fun k t h=>by simp at h)).mono ?_
 rintro e w' ⟨xs,h1,he,h2,h3⟩
 exact ⟨xs,h1,he,newHoldR4 h2,h3⟩
end
structure CkNo (l:List Lf):Prop where
 cl:l.all (Lf.of fun _=>false)=true
 prog:∀ (β:Env) (w:World),Calls Tryz.prog 97 (([.one (.a l)]:List SV).map (SV.den β)).toArray w fun e w'=>e=.returned (.int .i64 2)∧Below w.heap.size w w'
 ref:∀ (β:Env) (w:World),Calls Tryz.prog 253 (([.one (.a l)]:List SV).map (SV.den β)).toArray w fun e w'=>e=.returned (.int .i64 2)∧Below w.heap.size w w'
theorem of_cl {l:List Lf} (hl:l.all (Lf.of fun _=>false)=true):(([SV.one (.a l)]:List SV).all (SV.of fun k=>Nat.blt k 0)&&(SV.one (nI' 2)).of fun k=>Nat.blt k (0+0))=true:=by
 have:l.all (Lf.of fun k=>Nat.blt k 0)=true:=List.all_eq_true.2 fun x hx=>Lf.of_mono (fun _ hk=>by cases hk) x (List.all_eq_true.1 hl x hx)
 rw [Bool.and_eq_true]
 exact ⟨by rw [List.all_cons,List.all_nil,Bool.and_true]; exact this,by kernel_rfl⟩
def sRCkNo {l:List Lf} (h:CkNo l):Spec Tryz.prog :=
 ⟨253,Tryz.call253,[.one (.a l)],[],.one (nI' 2),[],fun β w _=>(h.ref β w).mono fun e w' ⟨he,hb⟩=>⟨[],(fun _ h=>by cases h),by rw [he]; rfl,trivial,hb⟩,of_cl h.cl⟩
theorem rl_cl (a b c d:R4):(rL a++(rL b++rL c)++rL d).all (Lf.of fun _=>false)=true:=rfl
theorem two_of {f:FuncId} {l:List Lf} {w:World} {β:Env} (h:Calls Tryz.prog f (([.one (.a l)]:List SV).map (SV.den β)).toArray w fun e w'=>∃ xs:List Pl,freshS β w 0 xs∧e=.returned ((SV.one (nI' 2)).den (extE β 0 xs))∧newHold w' [] xs∧Below w.heap.size w w') :
  Calls Tryz.prog f (([.one (.a l)]:List SV).map (SV.den β)).toArray w fun e w'=>e=.returned (.int .i64 2)∧Below w.heap.size w w':=h.mono fun e w' ⟨xs,_,he,_,hb⟩=>⟨by rw [he]; rfl,hb⟩
theorem ckProg (a b c d:R4) (h:WheelNo (rL a++(rL b++rL c)++rL d)) (β:Env) (w:World):Calls Tryz.prog 97 (([.one (.a (rL a++(rL b++rL c)++rL d))]:List SV).map (SV.den β)).toArray w fun e w'=>e=.returned (.int .i64 2)∧Below w.heap.size w w' :=
 two_of (spec_auto (obs:=[]) (news:=[]) (res:=.one (nI' 2)) (evs:=[(sWheelNo h (rl_cl a b c d)).e]) (Ns:=[]) (m:=400) Tryz.func97 hmA (fun β=>by kernel_rfl) (by kernel_rfl) β w (fun k t h=>by simp at h))
def sR3MayQ (a:Fn) {r:Bool} (h:a.B=r):Spec Tryz.prog :=
 ⟨17,Tryz.call17,[.one (.a (rL a.r))],[],tB' r,[],fun β w hh=>by
  rw [← h]
  cases a with
  | ok x hx =>
   have:=(Fp.may3 (.ok x hx)).ok β w hh
   exact this
  | no f hf =>
   obtain ⟨r,a,e⟩:=f
   cases a with
   | ok x hx=>cases hf
   | no b c s t hn hs ht =>
    have:=(Fp.may3 (.no b c s t hn hs ht)).ok β w hh
    show Calls _ _ (([SV.one (.a (rL r))]:List SV).map (SV.den β)).toArray w _
    rw [← e]
    exact this,by kernel_rfl⟩
theorem ckNum (a:Fn) (b:Gn) (c:Fn) (h:(a.B&&(b.B&&c.B))=false) (β:Env) (w:World):Calls Tryz.prog 253 (([.one (.a (rL a.r++(rL b.x++rL b.y)++rL c.r))]:List SV).map (SV.den β)).toArray w fun e w'=>e=.returned (.int .i64 2)∧Below w.heap.size w w':=by
 have hh:∀ (k:Nat) (t:Thing),([]:List Thing)[k]?=some t→t.D w (β k):=fun k t h=>by simp at h
 refine two_of ?_
 cases h1:a.B with
 | false=>exact spec_auto (obs:=[]) (news:=[]) (res:=.one (nI' 2)) (evs:=[(sR3MayQ a h1).e]) (Ns:=[(3,9)]) (m:=400) Tryz.func253 hmA (fun β=>by kernel_rfl) (by kernel_rfl) β w hh
 | true=>cases h2:b.B with
  | false=>exact spec_auto (obs:=[]) (news:=[]) (res:=.one (nI' 2)) (evs:=[(sR3MayQ a h1).e,(sR4MayG b h2).e]) (Ns:=[(3,9)]) (m:=400) Tryz.func253 hmA (fun β=>by kernel_rfl) (by kernel_rfl) β w hh
  | true=>cases h3:c.B with
   | false=>exact spec_auto (obs:=[]) (news:=[]) (res:=.one (nI' 2)) (evs:=[(sR3MayQ a h1).e,(sR4MayG b h2).e,(sR3MayQ c h3).e]) (Ns:=[(3,9)]) (m:=400) Tryz.func253 hmA (fun β=>by kernel_rfl) (by kernel_rfl) β w hh
   | true=>rw [h1,h2,h3] at h; cases h
section
variable {r:RQ} (hf:FitC r)
noncomputable def ckE (r:RQ) (hf:FitC r):List (Ev Tryz.prog):=[(sR3MayQ (.ok r.a hf.1) rfl).e,(sR4MayG (.ok r.b hf.2.1) rfl).e,(sR3MayQ (.ok r.c hf.2.2) rfl).e,(sCPower (fitC_sz hf)).e,(sR3Sign (x:=rpow r) rfl).e]
include hf in
theorem ckPow (hp:decide ((rpow r).num.sign≤0)=true) (β:Env) (w:World):Calls Tryz.prog 253 (([.one (.a (cC r))]:List SV).map (SV.den β)).toArray w fun e w'=>e=.returned (.int .i64 2)∧Below w.heap.size w w' :=
 two_of (spec_auto (obs:=[]) (news:=[]) (res:=.one (nI' 2)) (evs:=ckE r hf++[.eqv 23 (.bool (decide ((rpow r).num.sign≤0))) (.bool true) (sgn_le hp)]) (Ns:=[(3,9)]) (m:=400) Tryz.func253 hmA (fun β=>by kernel_rfl) (by kernel_rfl) β w (fun k t h=>by simp at h))
abbrev eqRone (r s:RQ):Bool:=(fR r.a).eq (fR s.a)&&(geq (fR r.b.re) (fR r.b.im) (fR s.b.re) (fR s.b.im)&&((fR r.c).eq (fR s.c)&&true))
theorem eqRone_iff {r s:RQ}:eqRone r s=true↔r=s:=by
 unfold eqRone geq
 simp only [Bool.and_true,Bool.and_eq_true,R4.eq_iff]
 constructor
 · rintro ⟨h1,⟨h2,h3⟩,h4⟩
   obtain ⟨a,⟨b,b'⟩,c⟩:=r
   obtain ⟨d,⟨e,e'⟩,f⟩:=s
   obtain rfl:a=d:=fR_inj h1
   obtain rfl:b=e:=fR_inj h2
   obtain rfl:b'=e':=fR_inj h3
   obtain rfl:c=f:=fR_inj h4
   rfl
 · rintro rfl
   exact ⟨rfl,⟨rfl,rfl⟩,rfl⟩
def eqEvR (r s:RQ) {t:Bool} (h:eqRone r s=t):Ev Tryz.prog:=eqEvC (fR r.a) (fR r.b.re) (fR r.b.im) (fR r.c) (fR s.a) (fR s.b.re) (fR s.b.im) (fR s.c) t h
include hf in
theorem ckOne (hp:decide ((rpow r).num.sign≤0)=false) (hne:rone r≠r) (β:Env) (w:World):Calls Tryz.prog 253 (([.one (.a (cC r))]:List SV).map (SV.den β)).toArray w fun e w'=>e=.returned (.int .i64 2)∧Below w.heap.size w w' :=
 two_of (spec_auto (obs:=[]) (news:=[]) (res:=.one (nI' 2)) (evs:=ckE r hf++[.eqv 23 (.bool (decide ((rpow r).num.sign≤0))) (.bool false) (sgn_le hp),(sCNorm1 (fitC_sz hf) hp).e,eqEvR (rone r) r (t:=false) (Bool.eq_false_iff.2 fun e=>hne (eqRone_iff.1 e))]) (Ns:=[(3,9)]) (m:=400) Tryz.func253 hmA (fun β=>by kernel_rfl) (by kernel_rfl) β w (fun k t h=>by simp at h))
end
noncomputable def sRCk {r:RQ} (h:MayC r):Spec Tryz.prog :=
 Spec.auto Tryz.call253 [.one (.a (cC r))] [] (.one (nI' 0)) [] (ckE r h.fit++[.eqv 23 (.bool (decide ((rpow r).num.sign≤0))) (.bool false) (sgn_le h.pow),(sCNorm1 (fitC_sz h.fit) h.pow).e,eqEvR (rone r) r (t:=true) (eqRone_iff.2 h.one)]) [(3,9)] 400 Tryz.func253 hmA (by kernel_rfl) (fun β=>by kernel_rfl)
theorem cC_eq (r:RQ):cC r=rL (fR r.a)++(rL (fR r.b.re)++rL (fR r.b.im))++rL (fR r.c):=by
 unfold cC
 simp only [List.append_assoc]
theorem ckNoOf {r:RQ} (h:WheelNo (cC r)) (k:∀ (β:Env) (w:World),Calls Tryz.prog 253 (([.one (.a (cC r))]:List SV).map (SV.den β)).toArray w fun e w'=>e=.returned (.int .i64 2)∧Below w.heap.size w w') :
  CkNo (rL (fR r.a)++(rL (fR r.b.re)++rL (fR r.b.im))++rL (fR r.c)):=by
 rw [cC_eq] at h
 refine ⟨rl_cl ..,ckProg _ _ _ _ h,fun β w=>?_⟩
 have:=k β w
 rw [cC_eq] at this
 exact this
theorem ckNoNum (x:Fn) (z:Gn) (y:Fn) (h:(x.B&&(z.B&&y.B))=false):CkNo (rL x.r++(rL z.x++rL z.y)++rL y.r):=⟨rl_cl ..,ckProg _ _ _ _ (wheelNum x z y h),ckNum x z y h⟩
inductive Cp where
 | ok (r:RQ) (h:MayC r)
 | no (a b b' c:R4) (h:CkNo (rL a++(rL b++rL b')++rL c))
def Cp.L:Cp→List Lf
 | .ok r _=>cC r
 | .no a b b' c _=>rL a++(rL b++rL b')++rL c
def Cp.B:Cp→Bool
 | .ok ..=>true
 | .no ..=>false
def Cp.a:Cp→R4
 | .ok r _=>fR r.a
 | .no a _ _ _ _=>a
def Cp.b:Cp→R4
 | .ok r _=>fR r.b.re
 | .no _ b _ _ _=>b
def Cp.b':Cp→R4
 | .ok r _=>fR r.b.im
 | .no _ _ b _ _=>b
def Cp.c:Cp→R4
 | .ok r _=>fR r.c
 | .no _ _ _ c _=>c
theorem cp_of (a b b' c:R4) (ha:a.s.size≤maxLen∧a.t.size≤maxLen) (hb:b.s.size≤maxLen∧b.t.size≤maxLen) (hb':b'.s.size≤maxLen∧b'.t.size≤maxLen) (hc:c.s.size≤maxLen∧c.t.size≤maxLen):∃ p:Cp,p.a=a∧p.b=b∧p.b'=b'∧p.c=c:=by
 obtain ⟨x,rfl⟩:=fn_of a ha
 obtain ⟨z,rfl,rfl⟩:=gn_of b b' hb hb'
 obtain ⟨y,rfl⟩:=fn_of c hc
 cases h:(x.B&&(z.B&&y.B)) with
 | false=>exact ⟨.no x.r z.x z.y y.r (ckNoNum x z y h),rfl,rfl,rfl,rfl⟩
 | true =>
  cases x with
  | no=>cases h
  | ok x hx=>cases z with
   | no=>cases h
   | ok z hz=>cases y with
    | no=>cases h
    | ok y hy =>
     have hf:FitC ⟨x,z,y⟩:=⟨hx,hz,hy⟩
     cases hp:decide ((rpow ⟨x,z,y⟩).num.sign≤0) with
     | true=>exact ⟨.no (fR x) (fR z.re) (fR z.im) (fR y) (ckNoOf (wheelPow hf hp) (ckPow hf hp)),rfl,rfl,rfl,rfl⟩
     | false =>
      by_cases hne:rone ⟨x,z,y⟩=⟨x,z,y⟩
      · exact ⟨.ok ⟨x,z,y⟩ ⟨hf,hp,hne⟩,rfl,rfl,rfl,rfl⟩
      · exact ⟨.no (fR x) (fR z.re) (fR z.im) (fR y) (ckNoOf (wheelOne hf hp hne) (ckOne hf hp hne)),rfl,rfl,rfl,rfl⟩
noncomputable def eFQuo {x y:Rat} (i n k j:Nat) (hx:Sz KB x) (hy:Sz KB y) (h0:y≠0):Ev Tryz.prog:=.fill 188 Tryz.call188 (fun β=>#[.pointer (some ⟨(β i).b,0,none⟩),.pointer ((β k).v 0),.pointer ((β j).v 0)]) [(k,(ratT x).ob),(j,(ratT y).ob)] i 4 n (ratT (x/y))
 (fun β w h ho hs=>by
  obtain ⟨a,ha,ka⟩:=needP (x:=x) (k:=k) h (by simp)
  obtain ⟨b,hb,kb⟩:=needP (x:=y) (k:=j) h (by simp)
  simp only [ha.1,hb.1]
  exact fillP ho (rQuo_any hs ka kb (hx.okR2 (by decide)) (hy.okR2 (by decide)) h0))
noncomputable def fQuo {x y:Rat} (hx:Sz KB x) (hy:Sz KB y) (h0:y≠0):Ev Tryz.prog:=dyn3 fun i n k j=>eFQuo i n k j hx hy h0
theorem div_sz {i j:Nat} {x y:Rat} (hx:Sz i x) (hy:Sz j y) (h0:y≠0):Sz (i+j) (x/y):=by
 rw [Rat.div_def]
 exact hx.mul (hy.inv h0)
section
variable {x y:Rat} (hx:Sz KB x) (hy:Sz KB y)
noncomputable def sMtAdd:Spec Tryz.prog:=Spec.auto Tryz.call361 [rV 0,rV 1] [ratT x,ratT y] (rV 2) [ratT (x+y)] [mkR,fAdd hx hy] [] 400 Tryz.func361 hmA (by kernel_rfl) (fun β=>by kernel_rfl)
noncomputable def sMtSub:Spec Tryz.prog:=Spec.auto Tryz.call357 [rV 0,rV 1] [ratT x,ratT y] (rV 2) [ratT (x-y)] [mkR,fSub hx hy] [] 400 Tryz.func357 hmA (by kernel_rfl) (fun β=>by kernel_rfl)
noncomputable def sMtMul:Spec Tryz.prog:=Spec.auto Tryz.call271 [rV 0,rV 1] [ratT x,ratT y] (rV 2) [ratT (x*y)] [mkR,fMul hx hy] [] 400 Tryz.func271 hmA (by kernel_rfl) (fun β=>by kernel_rfl)
noncomputable def sMtQuo (h0:y≠0):Spec Tryz.prog:=Spec.auto Tryz.call267 [rV 0,rV 1] [ratT x,ratT y] (rV 2) [ratT (x/y)] [mkR,fQuo hx hy h0] [] 400 Tryz.func267 hmA (by kernel_rfl) (fun β=>by kernel_rfl)
end
noncomputable def sMtNum (n:Int) (hn : -9223372036854775808≤n∧n≤9223372036854775807:=by decide):Spec Tryz.prog :=
 Spec.auto Tryz.call270 [.one (svI n)] [] (rV 0) [ratT (Rat.divInt n 1)] [nNew n 1 hn (by decide) (by decide)] [] 400 Tryz.func270 hmA (by kernel_rfl) (fun β=>by kernel_rfl)
abbrev KF:Nat:=50000
theorem n2_sz:Sz 8 (Rat.divInt 2 1):=sz_lit 2 1 (by decide) (by decide) (by decide)
theorem n2_ne:(Rat.divInt 2 1:Rat)≠0:=of_decide_eq_true (by kernel_rfl:decide ((Rat.divInt 2 1:Rat)≠0)=true)
theorem m2_ne:(Rat.divInt (-2) 1:Rat)≠0:=of_decide_eq_true (by kernel_rfl:decide ((Rat.divInt (-2) 1:Rat)≠0)=true)
def fpr (f g:RQ):Rat:=f.b.re*g.b.re+f.b.im*g.b.im-(f.a*g.c+f.c*g.a)/Rat.divInt 2 1
abbrev psz (j k:Nat):Nat:=j+k+(j+k)+1+(j+k+(j+k)+1+8)+1
theorem fpr_sz {j k:Nat} {f g:RQ} (hf:RSz j f) (hg:RSz k g):Sz (psz j k) (fpr f g) :=
 ((hf.b.1.mul hg.b.1).add (hf.b.2.mul hg.b.2)).sub (div_sz ((hf.a.mul hg.c).add (hf.c.mul hg.a)) n2_sz n2_ne)
noncomputable def sMtProd {f g:RQ} (hf:RSz KF f) (hg:RSz KF g):Spec Tryz.prog :=
 Spec.auto Tryz.call268 [rgV 0,rgV 4] (rgT f++rgT g) (rV 8) [ratT (fpr f g)]
  [(sMtMul (hf.b.1.mono (by decide)) (hg.b.1.mono (by decide))).e,(sMtMul (hf.b.2.mono (by decide)) (hg.b.2.mono (by decide))).e,(sMtAdd ((hf.b.1.mul hg.b.1).mono (by decide)) ((hf.b.2.mul hg.b.2).mono (by decide))).e,
   (sMtMul (hf.a.mono (by decide)) (hg.c.mono (by decide))).e,(sMtMul (hf.c.mono (by decide)) (hg.a.mono (by decide))).e,(sMtAdd ((hf.a.mul hg.c).mono (by decide)) ((hf.c.mul hg.a).mono (by decide))).e,(sMtNum 2).e,
   (sMtQuo (((hf.a.mul hg.c).add (hf.c.mul hg.a)).mono (by decide)) (n2_sz.mono (by decide)) n2_ne).e,
   (sMtSub (((hf.b.1.mul hg.b.1).add (hf.b.2.mul hg.b.2)).mono (by decide)) ((div_sz ((hf.a.mul hg.c).add (hf.c.mul hg.a)) n2_sz n2_ne).mono (by decide))).e]
  [(1,12),(2,16)] 600 Tryz.func268 hmA (by kernel_rfl) (fun β=>by kernel_rfl)
def pls (f g:RQ) (s t:Rat):RQ:=⟨s*f.a+t*g.a,⟨s*f.b.re+t*g.b.re,s*f.b.im+t*g.b.im⟩,s*f.c+t*g.c⟩
theorem pls_sz {i j k l:Nat} {f g:RQ} {s t:Rat} (hf:RSz i f) (hg:RSz j g) (hs:Sz k s) (ht:Sz l t):RSz (k+i+(l+j)+1) (pls f g s t) :=
 ⟨(hs.mul hf.a).add (ht.mul hg.a),⟨(hs.mul hf.b.1).add (ht.mul hg.b.1),(hs.mul hf.b.2).add (ht.mul hg.b.2)⟩,(hs.mul hf.c).add (ht.mul hg.c)⟩
noncomputable def plE {x y s t:Rat} (hx:Sz KF x) (hy:Sz KF y) (hs:Sz KF s) (ht:Sz KF t):List (Ev Tryz.prog) :=
 [(sMtMul (hs.mono (by decide)) (hx.mono (by decide))).e,(sMtMul (ht.mono (by decide)) (hy.mono (by decide))).e,(sMtAdd ((hs.mul hx).mono (by decide)) ((ht.mul hy).mono (by decide))).e]
noncomputable def sMtPlus {f g:RQ} {s t:Rat} (hf:RSz KF f) (hg:RSz KF g) (hs:Sz KF s) (ht:Sz KF t):Spec Tryz.prog :=
 Spec.auto Tryz.call269 [rgV 0,rgV 4,rV 8,rV 9] (rgT f++rgT g++[ratT s,ratT t]) (rgV 10) (rgT (pls f g s t))
  (plE hf.a hg.a hs ht++plE hf.b.1 hg.b.1 hs ht++plE hf.b.2 hg.b.2 hs ht++plE hf.c hg.c hs ht) [(5,13)] 1200 Tryz.func269 hmA (by kernel_rfl) (fun β=>by kernel_rfl)
theorem rpow_fpr (f:RQ):fpr f f=rpow f:=by
 have h:(Rat.divInt 2 1:Rat)=2:=of_decide_eq_true (by kernel_rfl:decide ((Rat.divInt 2 1:Rat)=2)=true)
 unfold fpr rpow gnorm
 rw [h]
 grind
noncomputable def quE {x y:Rat} (hx:Sz KF x) (hy:Sz KF y) (h0:y≠0):List (Ev Tryz.prog):=[(sMtQuo (hx.mono (by decide)) (hy.mono (by decide)) h0).e,(sFrac ((div_sz hx hy h0).mono (by decide))).e]
theorem ansK_lit {x:Rat} {k:Int} (h:ansK x=k):Value.int .i64 (ansK x)=.int .i64 k:=by rw [h]
noncomputable def quY {x y:Rat} (hx:Sz KF x) (hy:Sz KF y) (h0:y≠0) (h:ansK (x/y)=0):List (Ev Tryz.prog):=quE hx hy h0++[.eqv 40 (.int .i64 (ansK (x/y))) (.int .i64 0) (ansK_lit h)]
noncomputable def quN {x y:Rat} (hx:Sz KF x) (hy:Sz KF y) (h0:y≠0) (h:ansK (x/y)=4):List (Ev Tryz.prog):=quE hx hy h0++[.eqv 40 (.int .i64 (ansK (x/y))) (.int .i64 4) (ansK_lit h)]
theorem sign_ne {x:Rat} {b:Bool} (h:decide (x=0)=b):(Value.bool (!(x.num.sign==0)))=.bool (!b):=by
 have:=sign_lit h
 injection this with h2
 rw [h2]
noncomputable def byE (f:RQ):(i j:Bool)→decide (f.a=0)=i→decide (f.b.re=0)=j→rbyQ i j f≠0→List (Ev Tryz.prog)
 | false,_,hi,_,_=>[nSign (x:=f.a) rfl,.eqv 26 (.bool (!(f.a.num.sign==0))) (.bool true) (sign_ne hi)]
 | true,false,hi,hj,_=>[nSign (x:=f.a) rfl,.eqv 26 (.bool (!(f.a.num.sign==0))) (.bool false) (sign_ne hi),nSign (x:=f.b.re) rfl,.eqv 26 (.bool (!(f.b.re.num.sign==0))) (.bool true) (sign_ne hj)]
 | true,true,hi,hj,h0=>[nSign (x:=f.a) rfl,.eqv 26 (.bool (!(f.a.num.sign==0))) (.bool false) (sign_ne hi),nSign (x:=f.b.re) rfl,.eqv 26 (.bool (!(f.b.re.num.sign==0))) (.bool false) (sign_ne hj),
   nSign (x:=f.b.im) rfl,.eqv 26 (.bool (!(f.b.im.num.sign==0))) (.bool true) (sign_ne (decide_eq_false h0))]
noncomputable def poE {f:RQ} (h:RSz KF f) {b:Bool} (hp:decide ((fpr f f).num.sign≤0)=b):List (Ev Tryz.prog):=[(sMtProd h h).e,nSign (x:=fpr f f) rfl,.eqv 16 (.bool (decide ((fpr f f).num.sign≤0))) (.bool b) (sgn_le hp)]
theorem circle_ok {f:RQ} (h:RSz KF f) {i j:Bool} (hi:decide (f.a=0)=i) (hj:decide (f.b.re=0)=j) (h0:rbyQ i j f≠0) (hp:decide ((fpr f f).num.sign≤0)=false) (β:Env) (w:World) (hh:∀ (k:Nat) (t:Thing),(rgT f)[k]?=some t→t.D w (β k)) :
  Calls Tryz.prog 371 (([rgV 0]:List SV).map (SV.den β)).toArray w fun e w'=>∃ xs:List Pl,freshS β w 4 xs∧e=.returned ((ciA (rqd f (rbyQ i j f))).den (extE β 4 xs))∧newHold w' [] xs∧Below w.heap.size w w':=by
 have hb:=rby_sz h i j
 have hN:∀ {x:Rat},¬ Fit x→ansK x=4:=fun hx=>if_neg hx
 have hY:∀ {x:Rat},Fit x→ansK x=0:=fun hx=>if_pos hx
 by_cases h1:Fit (f.a/rbyQ i j f)
 · by_cases h2:Fit (f.b.re/rbyQ i j f)
   · by_cases h3:Fit (f.b.im/rbyQ i j f)
     · by_cases h4:Fit (f.c/rbyQ i j f)
       · have e:ciA (rqd f (rbyQ i j f))=.tup [.a (fA (f.a/rbyQ i j f)++fA (f.b.re/rbyQ i j f)++fA (f.b.im/rbyQ i j f)++fA (f.c/rbyQ i j f)),nI' 0]:=by
          rw [ciA,(ci_fit (m:=rqd f (rbyQ i j f)) ⟨h1,⟨h2,h3⟩,h4⟩).1,(ci_fit (m:=rqd f (rbyQ i j f)) ⟨h1,⟨h2,h3⟩,h4⟩).2,(fA_fit h1).1,(fA_fit h2).1,(fA_fit h3).1,(fA_fit h4).1]
          rfl
         rw [e]
         cases i
         · exact spec_auto (args:=[rgV 0]) (obs:=rgT f) (news:=[]) (evs:=poE h hp++byE f false j hi hj h0++quY h.a hb h0 (hY h1)++quY h.b.1 hb h0 (hY h2)++quY h.b.2 hb h0 (hY h3)++quY h.c hb h0 (hY h4)) (Ns:=[]) (m:=2000) Tryz.func371 hmA (fun β=>by kernel_rfl) (by kernel_rfl) β w hh
         · cases j<;>exact spec_auto (args:=[rgV 0]) (obs:=rgT f) (news:=[]) (evs:=poE h hp++byE f true _ hi hj h0++quY h.a hb h0 (hY h1)++quY h.b.1 hb h0 (hY h2)++quY h.b.2 hb h0 (hY h3)++quY h.c hb h0 (hY h4)) (Ns:=[]) (m:=2000) Tryz.func371 hmA (fun β=>by kernel_rfl) (by kernel_rfl) β w hh
       · rw [ciA,(ci_not (m:=rqd f (rbyQ i j f)) fun e=>h4 e.2.2).1,(ci_not (m:=rqd f (rbyQ i j f)) fun e=>h4 e.2.2).2]
         cases i
         · exact spec_auto (args:=[rgV 0]) (obs:=rgT f) (news:=[]) (evs:=poE h hp++byE f false j hi hj h0++quY h.a hb h0 (hY h1)++quY h.b.1 hb h0 (hY h2)++quY h.b.2 hb h0 (hY h3)++quN h.c hb h0 (hN h4)) (Ns:=[]) (m:=2000) Tryz.func371 hmA (fun β=>by kernel_rfl) (by kernel_rfl) β w hh
         · cases j<;>exact spec_auto (args:=[rgV 0]) (obs:=rgT f) (news:=[]) (evs:=poE h hp++byE f true _ hi hj h0++quY h.a hb h0 (hY h1)++quY h.b.1 hb h0 (hY h2)++quY h.b.2 hb h0 (hY h3)++quN h.c hb h0 (hN h4)) (Ns:=[]) (m:=2000) Tryz.func371 hmA (fun β=>by kernel_rfl) (by kernel_rfl) β w hh
     · rw [ciA,(ci_not (m:=rqd f (rbyQ i j f)) fun e=>h3 e.2.1.2).1,(ci_not (m:=rqd f (rbyQ i j f)) fun e=>h3 e.2.1.2).2]
       cases i
       · exact spec_auto (args:=[rgV 0]) (obs:=rgT f) (news:=[]) (evs:=poE h hp++byE f false j hi hj h0++quY h.a hb h0 (hY h1)++quY h.b.1 hb h0 (hY h2)++quN h.b.2 hb h0 (hN h3)) (Ns:=[]) (m:=2000) Tryz.func371 hmA (fun β=>by kernel_rfl) (by kernel_rfl) β w hh
       · cases j<;>exact spec_auto (args:=[rgV 0]) (obs:=rgT f) (news:=[]) (evs:=poE h hp++byE f true _ hi hj h0++quY h.a hb h0 (hY h1)++quY h.b.1 hb h0 (hY h2)++quN h.b.2 hb h0 (hN h3)) (Ns:=[]) (m:=2000) Tryz.func371 hmA (fun β=>by kernel_rfl) (by kernel_rfl) β w hh
   · rw [ciA,(ci_not (m:=rqd f (rbyQ i j f)) fun e=>h2 e.2.1.1).1,(ci_not (m:=rqd f (rbyQ i j f)) fun e=>h2 e.2.1.1).2]
     cases i
     · exact spec_auto (args:=[rgV 0]) (obs:=rgT f) (news:=[]) (evs:=poE h hp++byE f false j hi hj h0++quY h.a hb h0 (hY h1)++quN h.b.1 hb h0 (hN h2)) (Ns:=[]) (m:=2000) Tryz.func371 hmA (fun β=>by kernel_rfl) (by kernel_rfl) β w hh
     · cases j<;>exact spec_auto (args:=[rgV 0]) (obs:=rgT f) (news:=[]) (evs:=poE h hp++byE f true _ hi hj h0++quY h.a hb h0 (hY h1)++quN h.b.1 hb h0 (hN h2)) (Ns:=[]) (m:=2000) Tryz.func371 hmA (fun β=>by kernel_rfl) (by kernel_rfl) β w hh
 · rw [ciA,(ci_not (m:=rqd f (rbyQ i j f)) fun e=>h1 e.1).1,(ci_not (m:=rqd f (rbyQ i j f)) fun e=>h1 e.1).2]
   cases i
   · exact spec_auto (args:=[rgV 0]) (obs:=rgT f) (news:=[]) (evs:=poE h hp++byE f false j hi hj h0++quN h.a hb h0 (hN h1)) (Ns:=[]) (m:=2000) Tryz.func371 hmA (fun β=>by kernel_rfl) (by kernel_rfl) β w hh
   · cases j<;>exact spec_auto (args:=[rgV 0]) (obs:=rgT f) (news:=[]) (evs:=poE h hp++byE f true _ hi hj h0++quN h.a hb h0 (hN h1)) (Ns:=[]) (m:=2000) Tryz.func371 hmA (fun β=>by kernel_rfl) (by kernel_rfl) β w hh
noncomputable def mxR (r:RQ) (x:Rat):R4:=bif wtB r then r40 else ciR (rone r) x
noncomputable def mxK (r:RQ):Int:=bif wtB r then 7 else ciK (rone r)
noncomputable abbrev mxC (r:RQ):List Lf:=rL (mxR r (rone r).a)++rL (mxR r (rone r).b.re)++rL (mxR r (rone r).b.im)++rL (mxR r (rone r).c)
theorem mx_no {r:RQ} (h:wtB r=true):mxC r=c0C∧mxK r=7:=⟨by simp only [mxC,mxR,h,cond_true],by rw [mxK,h]; rfl⟩
theorem mx_yes {r:RQ} (h:wtB r=false):mxC r=ciC (rone r)∧mxK r=ciK (rone r):=⟨by simp only [mxC,mxR,h,cond_false],by rw [mxK,h]; rfl⟩
noncomputable abbrev mxA (r:RQ):SV:=.tup [.a (mxC r),nI' (mxK r)]
noncomputable def sMtCircle {f:RQ} (h:RSz KF f):Spec Tryz.prog :=
 ⟨371,Tryz.call371,[rgV 0],rgT f,mxA f,[],fun β w hh=>by
  have hr:decide ((fpr f f).num.sign≤0)=wtB f:=by rw [rpow_fpr]; rfl
  cases hp:wtB f with
  | true =>
   rw [mxA,(mx_no hp).1,(mx_no hp).2]
   exact spec_auto (args:=[rgV 0]) (obs:=rgT f) (news:=[]) (evs:=poE h (hr.trans hp)) (Ns:=[]) (m:=800) Tryz.func371 hmA (fun β=>by kernel_rfl) (by kernel_rfl) β w hh
  | false =>
   rw [mxA,(mx_yes hp).1,(mx_yes hp).2]
   have:=circle_ok h rfl rfl (rby_ne hp) (hr.trans hp) β w hh
   rw [rqd_eq] at this
   exact this,by kernel_rfl⟩
def fsq (f g:RQ):Rat:=fpr f g*fpr f g/(fpr f f*fpr g g)
noncomputable def sMtSq {f g:RQ} (hf:RSz KF f) (hg:RSz KF g) (h0:fpr f f*fpr g g≠0):Spec Tryz.prog :=
 Spec.auto Tryz.call288 [rgV 0,rgV 4] (rgT f++rgT g) (rV 8) [ratT (fsq f g)]
  [(sMtProd hf hg).e,(sMtMul ((fpr_sz hf hg).mono (by decide)) ((fpr_sz hf hg).mono (by decide))).e,(sMtProd hf hf).e,(sMtProd hg hg).e,(sMtMul ((fpr_sz hf hf).mono (by decide)) ((fpr_sz hg hg).mono (by decide))).e,
   (sMtQuo (((fpr_sz hf hg).mul (fpr_sz hf hg)).mono (by decide)) (((fpr_sz hf hf).mul (fpr_sz hg hg)).mono (by decide)) h0).e] [(2,12)] 600 Tryz.func288 hmA (by kernel_rfl) (fun β=>by kernel_rfl)
noncomputable def sMtOf {r:RQ} (h:FitC r):Spec Tryz.prog :=
 Spec.auto Tryz.call247 [.one (.a (cC r))] [] (rgV 0) (rgT r) [(sRatIn h.1).e,(sRatIn h.2.1.1).e,(sRatIn h.2.1.2).e,(sRatIn h.2.2).e] [] 800 Tryz.func247 hmA (by kernel_rfl) (fun β=>by kernel_rfl)
abbrev axQ (f g:RQ):RQ:=pls f g (Rat.divInt 1 1) (Rat.divInt (-1) 1)
abbrev nil4V:SC:=.a [nilL,nilL,nilL,nilL]
abbrev FRT:TypeId:=265
theorem form_some:(Tryz.prog.info? 265).isSome=true:=by kernel_rfl
noncomputable def appF:AppT Tryz.prog :=
 ⟨288,265,(Tryz.prog.info? 265).get form_some,.agg #[.pointer none,.pointer none,.pointer none,.pointer none],4,32,Tryz.underlying288,(Option.some_get form_some).symm,by kernel_rfl,by kernel_rfl,by kernel_rfl,rfl,by decide,by decide⟩
def frCd (f:RQ):List Cd:=[.t f.a,.t f.b.re,.t f.b.im,.t f.c]
theorem str_no_rat {w:World} {b:Nat} {c0:Value} {b1:ByteArray} {l:List Value} {t:TypeId} {x:Rat} (h:w.heap[b]?=some (.cells (c0::.string b1::l).toArray t (0,0))) (k:RatAt w b 0 x):False:=by
 obtain ⟨A,m,cap,_,h1,_⟩:=k.2.1.open_
 have h2:=cell_lay (o:=1) h rfl
 rw [Nat.zero_add,h2] at h1
 cases h1
theorem or_cdT {w:World} {g G:Pl} {x:Rat} {i:Nat} (h:PR x w g) (hv:G.v i=g.v 0) (hF:∀ c,g.F c→G.F c):cdP w G i (.t x):=by
 obtain ⟨b,h1,h2⟩:=h
 exact ⟨b,hv.trans h1.1,hF b ((h1.2 b).2 rfl),h2⟩
theorem cellPl_pr {w:World} {g:Pl} {i:Nat} {x:Rat} (h:cdP w g i (.t x)):PR x w (cellPl g i):=by
 obtain ⟨b,h1,h2,h3⟩:=h
 exact ⟨b,⟨h1,fun c=>⟨fun ⟨a,ha,hc⟩=>by rw [h1] at ha; cases ha; exact hc,fun hc=>⟨_,h1,hc⟩⟩⟩,h3⟩
theorem cellPl_Ft {w:World} {g:Pl} {i:Nat} {x:Rat} (h:cdP w g i (.t x)) {c:Nat} (hc:(cellPl g i).F c):g.F c:=by
 obtain ⟨a,ha,rfl⟩:=hc
 obtain ⟨b,h1,h2,h3⟩:=h
 rw [h1] at ha; cases ha; exact h2
def zsL (n:Nat):Nat→Nat→List Lf
 | _,0=>[]
 | i,m+1=>lit (n+i) (fun j=>.b (.z j 0))::zsL n (i+1) m
theorem den_zsL (β:Env) (n:Nat) (ps:List Pl):∀ (m i:Nat),i+m=ps.length→(zsL n i m).map (Lf.den (extE β n ps))=(ps.drop i).map fun p=>.pointer (p.v 0)
 | 0,i,h=>by rw [List.drop_eq_nil_of_le (by omega)]; rfl
 | m+1,i,h=>by
  have hi:i<ps.length:=by omega
  unfold zsL
  rw [lit_eq,List.drop_eq_getElem_cons hi,List.map_cons,List.map_cons,den_zsL β n ps m (i+1) (by omega)]
  congr 1
  show Value.pointer ((extE β n ps (n+i)).v 0)=_
  rw [extE_in (List.getElem?_eq_getElem hi)]
def isT:Cd→Bool
 | .t _=>true
 | _=>false
def rtOf:Cd→Rat
 | .t x=>x
 | _=>0
theorem isT_iff {c:Cd} (h:isT c=true):c=.t (rtOf c):=by cases c<;>first | rfl | cases h
def plsOf (g:Pl):Nat→Nat→List Pl
 | _,0=>[]
 | o,m+1=>cellPl g o::plsOf g (o+1) m
theorem plsOf_len (g:Pl):∀ (m o:Nat),(plsOf g o m).length=m
 | 0,_=>rfl
 | m+1,o=>congrArg (·+1) (plsOf_len g m (o+1))
def rtsAt (cs:List Cd):Nat→Nat→List Rat
 | _,0=>[]
 | o,m+1=>rtOf (cs.getD o (.v undef))::rtsAt cs (o+1) m
def okT (cs:List Cd):Nat→Nat→Bool
 | _,0=>true
 | o,m+1=>isT (cs.getD o (.v undef))&&okT cs (o+1) m
theorem okT_at {cs:List Cd}:∀ {m o j:Nat},okT cs o m=true→j<m→cs[o+j]?=some (.t (rtOf (cs.getD (o+j) (.v undef))))
 | m+1,o,0,h,_=>by
  unfold okT at h
  rw [Bool.and_eq_true] at h
  rw [Nat.add_zero]
  have h1:=isT_iff h.1
  have hlt:o<cs.length:=by
   rcases Nat.lt_or_ge o cs.length with hlt | hge
   · exact hlt
   · rw [List.getD_eq_getElem?_getD,List.getElem?_eq_none hge] at h
     cases h.1
  rw [List.getElem?_eq_getElem hlt]
  rw [List.getD_eq_getElem?_getD,List.getElem?_eq_getElem hlt,Option.getD_some] at h1 ⊢
  exact congrArg some h1
 | m+1,o,j+1,h,hj=>by
  unfold okT at h
  rw [Bool.and_eq_true] at h
  have:=okT_at (m:=m) (o:=o+1) (j:=j) h.2 (by omega)
  rw [show o+(j+1)=o+1+j by omega]
  exact this
theorem plsOf_hold {cs:List Cd} {w:World} {g:Pl} (hc:cdOk w g 0 cs):∀ {m o:Nat},okT cs o m=true→newHold w ((rtsAt cs o m).map ratT) (plsOf g o m)∧∀ p∈plsOf g o m,∀ c,p.F c→g.F c
 | 0,o,_=>⟨trivial,fun p hp=>by cases hp⟩
 | m+1,o,h=>by
  have h1:=okT_at (m:=m+1) (o:=o) (j:=0) h (by omega)
  rw [Nat.add_zero] at h1
  have hp:=cdOk_at hc h1
  rw [Nat.zero_add] at hp
  unfold okT at h
  rw [Bool.and_eq_true] at h
  obtain ⟨h2,h3⟩:=plsOf_hold hc (m:=m) (o:=o+1) h.2
  refine ⟨⟨cellPl_pr hp,h2⟩,fun p hq c hF=>?_⟩
  rcases List.mem_cons.1 hq with rfl | hq
  · exact cellPl_Ft hp hF
  · exact h3 p hq c hF
theorem plsOf_get (g:Pl):∀ (m o j:Nat),j<m→(plsOf g o m)[j]?=some (cellPl g (o+j))
 | m+1,o,0,_=>rfl
 | m+1,o,j+1,h=>by
  have:=plsOf_get g m (o+1) j (by omega)
  rw [show o+(j+1)=o+1+j by omega]
  exact this
noncomputable def rdCells (T:TypeId) (m:Nat) (hu:∃ d,Tryz.prog.underlying T=some d∧d.isRow=true) (hi:(Tryz.prog.info? T).map (·.size)=some m) (d t:Nat) (e:TypeId) (cs:List Cd) (o:Nat) (hx:okT cs o m=true) (k n:Nat):Ev Tryz.prog :=
 .rd d (.load T (.tmp t)) (fun β=>[.pointer (some ⟨(β k).b,o,none⟩)]) [(k,(rowT e cs).ob)] n (.one (.a (zsL n 0 m))) ((rtsAt cs o m).map ratT) (fun β w h ρ op ho hx'=>by
  have h1:RW e cs w (β k):=h (k,(rowT e cs).ob) (by simp)
  have h2:ρ (.tmp t)=.pointer (some ⟨(β k).b,o,none⟩):=by simpa [Op.operands] using hx'
  obtain ⟨h3,h4⟩:=plsOf_hold h1.2.1.1 hx
  refine ⟨plsOf (β k) o m,w,fun g hg c hc=>.inr ⟨(k,(rowT e cs).ob),by simp,rfl,h4 g hg c hc⟩,?_,h3,Below.refl _ _⟩
  have hr:w.rangeAt (β k).b o ((plsOf (β k) o m).map fun p=>.pointer (p.v 0)):=fun j v hv=>by
   rw [List.getElem?_map] at hv
   by_cases hj:j<m
   · rw [plsOf_get _ _ _ _ hj] at hv
     obtain rfl:=Option.some.inj hv
     exact rw_cell h1 (okT_at hx hj)
   · rw [List.getElem?_eq_none (by rw [plsOf_len]; omega)] at hv
     cases hv
  obtain ⟨dd,hu1,hu2⟩:=hu
  have hl:=run_loadAt_mid (P:=Tryz.prog) w (β k).b o T _ dd hr hu1 hu2 (by rw [List.length_map,plsOf_len]; exact hi)
  have hden:(SV.one (.a (zsL n 0 m))).den (extE β n (plsOf (β k) o m))=.agg ((plsOf (β k) o m).map fun p=>Value.pointer (p.v 0)).toArray:=by
   show Value.agg _=_
   rw [den_zsL β n (plsOf (β k) o m) m 0 (by rw [plsOf_len]; omega),List.drop_zero]
  rw [hden]
  unfold execOp
  rw [ho]
  simp only [h2]
  simp [hl,Result.andThen])
theorem form_u:∃ d,Tryz.prog.underlying 265=some d∧d.isRow=true:=⟨_,Tryz.underlying265,by kernel_rfl⟩
theorem form_i:(Tryz.prog.info? 265).map (·.size)=some 4:=by kernel_rfl
theorem form3_u:∃ d,Tryz.prog.underlying 295=some d∧d.isRow=true:=⟨_,Tryz.underlying295,by kernel_rfl⟩
theorem form3_i:(Tryz.prog.info? 295).map (·.size)=some 12:=by kernel_rfl
noncomputable def dCells (T:TypeId) (m:Nat) (hu:∃ d,Tryz.prog.underlying T=some d∧d.isRow=true) (hi:(Tryz.prog.info? T).map (·.size)=some m) (e:TypeId) (cs:List Cd):Ev Tryz.prog:=.dyn (fun o xs ob=>match o.op with
 | .load T' (.tmp _)=>Nat.beq T' T&&isAd (xs.getD 0 undefS)&&(match ob[(adOf (xs.getD 0 undefS)).1]? with | some (.th _)=>true | _=>false)
 | _=>false) fun o xs ob=>match o.op with
 | .load _ (.tmp t)=>lit (adOf (xs.getD 0 undefS)).1 fun k=>lit (adOf (xs.getD 0 undefS)).2 fun off=>lit ob.length fun n=>if h:okT cs off m=true then rdCells T m hu hi (o.dst.getD 0) t e cs off h k n else .eqv 0 undef undef rfl
 | _=>.eqv 0 undef undef rfl
noncomputable def dForm (cs:List Cd):Ev Tryz.prog:=dCells 265 4 form_u form_i FRT cs
noncomputable def dForm3 (cs:List Cd):Ev Tryz.prog:=dCells 295 12 form3_u form3_i FRT cs
noncomputable def rdIdxF (d t:Nat) (e:TypeId) (cs:List Cd) (ix:Operand) (n j:Nat) (hj:Nat.blt j n=true) (k:Nat):Ev Tryz.prog :=
 .rd d (.indexAddr 288 (.tmp t) ix) (fun β=>[.slice ((β k).v cs.length) n ((β k).c cs.length),.int .i64 (j:Int)]) [(k,(rowT e cs).ob)] 0 (.one (.c (.b (.p k (j*4))))) [] (fun β w h ρ op ho hx'=>by
  have h1:RW e cs w (β k):=h (k,(rowT e cs).ob) (by simp)
  have h2:ρ (.tmp t)=.slice (some ⟨(β k).b,0,none⟩) n ((β k).c cs.length)∧ρ ix=.int .i64 (j:Int):=by
   rw [h1.2.1.2] at hx'
   simpa [Op.operands] using hx'
  rw [Nat.blt_eq] at hj
  refine ⟨[],w,(fun _ h=>by cases h),?_,trivial,Below.refl _ _⟩
  rw [extE_nil]
  unfold execOp
  rw [ho]
  simp only [h2.1,h2.2]
  have hi:=run_indexAt_slice (P:=Tryz.prog) w 288 ⟨(β k).b,0,none⟩ n ((β k).c cs.length) .i64 (j:Int) (by kernel_rfl)
  have hsz:(sizeOf (Tryz.prog.elem 288)).run Tryz.prog w=.ok 4 w:=by kernel_rfl
  rw [if_pos ⟨by omega,by omega⟩,hsz,Result.andThen_ok,Int.toNat_natCast] at hi
  have ha:(⟨(β k).b,0,none⟩:Addr).add (j*4)=⟨(β k).b,j*4,none⟩:=by
   simp [Addr.add]
   exact fun h=>h.symm
  rw [ha] at hi
  simp only [Sem.run_bind,hi,Result.andThen_ok]
  rfl)
noncomputable def dIdxF (cs:List Cd):Ev Tryz.prog:=.dyn (fun o xs ob=>match o.op with
 | .indexAddr _ (.tmp _) _=>isY (xs.getD 0 undefS)
 | _=>false) fun o xs ob=>match o.op with
 | .indexAddr _ (.tmp t) ix=>lit (yOf (xs.getD 0 undefS)).1 fun k=>lit (yOf (xs.getD 0 undefS)).2 fun n=>lit (intS (xs.getD 1 undefS)) fun j=>if h:Nat.blt j n=true then rdIdxF (o.dst.getD 0) t FRT cs ix n j h k else .eqv 0 undef undef rfl
 | _=>.eqv 0 undef undef rfl
noncomputable def rdArr3 (d t:Nat) (e:TypeId) (cs:List Cd) (n:Nat) (hn:Nat.blt n 3=false) (k:Nat):Ev Tryz.prog :=
 .rd d (.sliceToArrayPointer 295 (.tmp t)) (fun β=>[.slice ((β k).v cs.length) n ((β k).c cs.length)]) [(k,(rowT e cs).ob)] 0 (.one (.c (.b (.p k 0)))) [] (fun β w h ρ op ho hx'=>by
  have h1:RW e cs w (β k):=h (k,(rowT e cs).ob) (by simp)
  have h2:ρ (.tmp t)=.slice (some ⟨(β k).b,0,none⟩) n ((β k).c cs.length):=by
   rw [h1.2.1.2] at hx'
   simpa [Op.operands] using hx'
  have hn':¬ n<3:=by rw [← Nat.blt_eq,hn]; exact Bool.false_ne_true
  refine ⟨[],w,(fun _ h=>by cases h),?_,trivial,Below.refl _ _⟩
  rw [extE_nil]
  unfold execOp
  rw [ho]
  simp only [h2]
  have hu:=Tryz.underlying295
  simp [Instr.arrayAt,hu,hn',Result.andThen]
  first | rfl | exact ⟨rfl,rfl⟩)
noncomputable def dArr3 (cs:List Cd):Ev Tryz.prog:=.dyn (fun o xs ob=>match o.op with
 | .sliceToArrayPointer _ (.tmp _)=>isY (xs.getD 0 undefS)
 | _=>false) fun o xs ob=>match o.op with
 | .sliceToArrayPointer _ (.tmp t)=>lit (yOf (xs.getD 0 undefS)).1 fun k=>lit (yOf (xs.getD 0 undefS)).2 fun n=>if h:Nat.blt n 3=false then rdArr3 (o.dst.getD 0) t FRT cs n h k else .eqv 0 undef undef rfl
 | _=>.eqv 0 undef undef rfl
abbrev fr2 (f0 f1:RQ):List Cd:=frCd f0++frCd f1
abbrev oc2A:List SV:=[.one (.c (.b (.s 0 0 2 2)))]
def oc2L (f0 f1:RQ):List Lf:=cC f0++cC f1
def oc2O (f0 f1:RQ):List (Nat × Ob):=[(14,.row [.b (.z 2 0),.b (.z 3 0),.b (.z 4 0),.b (.z 5 0),.b (.z 9 0),.b (.z 10 0),.b (.z 11 0),.b (.z 12 0)] FRT 2 4),(2,(ratT f0.a).ob),(3,(ratT f0.b.re).ob),(4,(ratT f0.b.im).ob),(5,(ratT f0.c).ob),(9,(ratT f1.a).ob),(10,(ratT f1.b.re).ob),(11,(ratT f1.b.im).ob),(12,(ratT f1.c).ob)]
noncomputable def oc2E {f0 f1:RQ} (hf0:MayC f0) (hf1:MayC f1):List (Ev Tryz.prog):=[(sCCheck hf0).e,(sMtOf hf0.fit).e,.app appF,(sCCheck hf1).e,(sMtOf hf1.fit).e,.app appF]
theorem oc2_eqs {f0 f1:RQ} (hf0:MayC f0) (hf1:MayC f1) (β:Env):(allS Tryz.prog Tryz.f272 oc2A [.box (oc2L f0 f1) 112] (oc2E hf0 hf1) [] 1200 (.tup [.c (.b (.r 14 2)),nI' 0]) (oc2O f0 f1) β).map Prod.fst=(allS Tryz.prog Tryz.f272 oc2A [.box (oc2L f0 f1) 112] (oc2E hf0 hf1) [] 1200 (.tup [.c (.b (.r 14 2)),nI' 0]) (oc2O f0 f1) β).map Prod.snd:=by kernel_rfl
theorem open2_ok {f0 f1:RQ} (hf0:MayC f0) (hf1:MayC f1) (β:Env) (w:World) (hh:(Ob.box (oc2L f0 f1) 112).holds β w (β 0)) :
  Calls Tryz.prog 272 (oc2A.map (SV.den β)).toArray w fun e u=>∃ xs:List Pl,(∀ x∈xs,∀ c,x.F c→w.heap.size≤c)∧e=.returned ((SV.tup [.c (.b (.y 1 8 2)),nI' 0]).den (extE β 1 xs))∧newHold u [rowT FRT (fr2 f0 f1)] xs∧Below w.heap.size w u:=by
 refine (sx (P:=Tryz.prog) oc2A [.box (oc2L f0 f1) 112] (oc2E hf0 hf1) [] 1200 (.tup [.c (.b (.r 14 2)),nI' 0]) (oc2O f0 f1) Tryz.func272 hmA (fun β=>ok_of_maps (oc2_eqs hf0 hf1 β)) (by kernel_rfl) (by kernel_rfl) β w (fun k o ho=>?_)).mono ?_
 · cases k with
   | zero=>simp only [List.getElem?_cons_zero] at ho; obtain rfl:=Option.some.inj ho; exact hh
   | succ k=>simp at ho
 · rintro e u ⟨β',q',obj,e1,rfl,e2,e4,e5,g⟩
   have hnew:∀ y∈oc2O f0 f1,∀ c,(β' y.1).F c→c≠(β 0).b→w.heap.size≤c:=fun y hy c hc hne=>by
    rcases e4 y hy c hc with h | ⟨i,hi,h⟩
    · exact h
    · obtain rfl:i=0:=by simp only [List.length_singleton] at hi; omega
      exact absurd ((hh.1.1 c).1 h) hne
   have hu:u.heap[(β 0).b]?=some (.cells ((oc2L f0 f1).map (Lf.den β)).toArray 112 (0,0)):=by rw [g.bel.block _ (heap_lt hh.2)]; exact hh.2
   have hrat:∀ (k:Nat) (x:Rat),(k,(ratT x).ob)∈oc2O f0 f1→PR x u (β' k)∧∀ c,(β' k).F c→w.heap.size≤c:=fun k x hk=>by
    have h:PR x u (β' k):=e5 _ hk
    refine ⟨h,fun c hc=>?_⟩
    obtain ⟨b,hb,hx⟩:=h
    have ec:=(hb.2 c).1 hc
    subst ec
    refine hnew _ hk c hc fun e=>?_
    rw [e] at hx
    exact str_no_rat hu hx
   obtain ⟨o2,n2⟩:=hrat 2 f0.a (by simp [oc2O])
   obtain ⟨o3,n3⟩:=hrat 3 f0.b.re (by simp [oc2O])
   obtain ⟨o4,n4⟩:=hrat 4 f0.b.im (by simp [oc2O])
   obtain ⟨o5,n5⟩:=hrat 5 f0.c (by simp [oc2O])
   obtain ⟨o9,n9⟩:=hrat 9 f1.a (by simp [oc2O])
   obtain ⟨o10,n10⟩:=hrat 10 f1.b.re (by simp [oc2O])
   obtain ⟨o11,n11⟩:=hrat 11 f1.b.im (by simp [oc2O])
   obtain ⟨o12,n12⟩:=hrat 12 f1.c (by simp [oc2O])
   obtain ⟨hone,cur,hcur,hcl,hn,hcm,hsz,htake⟩:=e5 (14,.row [.b (.z 2 0),.b (.z 3 0),.b (.z 4 0),.b (.z 5 0),.b (.z 9 0),.b (.z 10 0),.b (.z 11 0),.b (.z 12 0)] FRT 2 4) (by simp [oc2O])
   have hbR:w.heap.size≤(β' 14).b:=hnew _ (by simp [oc2O]) _ ((hone.1 _).2 rfl) fun e=>by
    rw [e,hu] at hcur
    have:=(Obj.cells.inj (Option.some.inj hcur)).2.1
    exact absurd this (by decide)
   refine ⟨[⟨(β' 14).b,fun i=>match i with | 0=>(β' 2).v 0 | 1=>(β' 3).v 0 | 2=>(β' 4).v 0 | 3=>(β' 5).v 0 | 4=>(β' 9).v 0 | 5=>(β' 10).v 0 | 6=>(β' 11).v 0 | 7=>(β' 12).v 0 | 8=>some ⟨(β' 14).b,0,none⟩ | _=>none,fun _=>(β' 14).c 0,fun c=>c=(β' 14).b∨(β' 2).F c∨(β' 3).F c∨(β' 4).F c∨(β' 5).F c∨(β' 9).F c∨(β' 10).F c∨(β' 11).F c∨(β' 12).F c,fun _=>undef⟩],fun x hx c hc=>?_,rfl,⟨⟨⟨.inl rfl,cur,hcur,?_⟩,⟨⟨or_cdT o2 rfl fun c hc=>.inr (.inl hc),or_cdT o3 rfl fun c hc=>.inr (.inr (.inl hc)),or_cdT o4 rfl fun c hc=>.inr (.inr (.inr (.inl hc))),or_cdT o5 rfl fun c hc=>.inr (.inr (.inr (.inr (.inl hc)))),or_cdT o9 rfl fun c hc=>.inr (.inr (.inr (.inr (.inr (.inl hc))))),or_cdT o10 rfl fun c hc=>.inr (.inr (.inr (.inr (.inr (.inr (.inl hc)))))),or_cdT o11 rfl fun c hc=>.inr (.inr (.inr (.inr (.inr (.inr (.inr (.inl hc))))))),or_cdT o12 rfl fun c hc=>.inr (.inr (.inr (.inr (.inr (.inr (.inr (.inr hc))))))),trivial⟩,rfl⟩,fun c hc=>?_⟩,trivial⟩,g.bel⟩
   · obtain rfl:=List.mem_singleton.1 hx
     rcases hc with rfl | hc | hc | hc | hc | hc | hc | hc | hc
     · exact hbR
     · exact n2 c hc
     · exact n3 c hc
     · exact n4 c hc
     · exact n5 c hc
     · exact n9 c hc
     · exact n10 c hc
     · exact n11 c hc
     · exact n12 c hc
   · have:(fr2 f0 f1).length=2*4:=rfl
     rw [this,htake]
     rfl
   · rcases hc with rfl | hc | hc | hc | hc | hc | hc | hc | hc
     · exact heap_lt hcur
     · exact (pr_stable _).lt u _ o2 c hc
     · exact (pr_stable _).lt u _ o3 c hc
     · exact (pr_stable _).lt u _ o4 c hc
     · exact (pr_stable _).lt u _ o5 c hc
     · exact (pr_stable _).lt u _ o9 c hc
     · exact (pr_stable _).lt u _ o10 c hc
     · exact (pr_stable _).lt u _ o11 c hc
     · exact (pr_stable _).lt u _ o12 c hc
noncomputable def sOpen2 {f0 f1:RQ} (hf0:MayC f0) (hf1:MayC f1):CSpec Tryz.prog :=
 ⟨272,Tryz.call272,oc2A,oc2L f0 f1,112,.tup [.c (.b (.y 1 8 2)),nI' 0],[rowT FRT (fr2 f0 f1)],open2_ok hf0 hf1,by kernel_rfl⟩
abbrev fr3 (f0 f1 f2:RQ):List Cd:=frCd f0++frCd f1++frCd f2
abbrev oc3A:List SV:=[.one (.c (.b (.s 0 0 3 3)))]
def oc3L (f0 f1 f2:RQ):List Lf:=cC f0++cC f1++cC f2
def oc3O (f0 f1 f2:RQ):List (Nat × Ob):=[(21,.row [.b (.z 2 0),.b (.z 3 0),.b (.z 4 0),.b (.z 5 0),.b (.z 9 0),.b (.z 10 0),.b (.z 11 0),.b (.z 12 0),.b (.z 16 0),.b (.z 17 0),.b (.z 18 0),.b (.z 19 0)] FRT 3 4),(2,(ratT f0.a).ob),(3,(ratT f0.b.re).ob),(4,(ratT f0.b.im).ob),(5,(ratT f0.c).ob),(9,(ratT f1.a).ob),(10,(ratT f1.b.re).ob),(11,(ratT f1.b.im).ob),(12,(ratT f1.c).ob),(16,(ratT f2.a).ob),(17,(ratT f2.b.re).ob),(18,(ratT f2.b.im).ob),(19,(ratT f2.c).ob)]
noncomputable def oc3E {f0 f1 f2:RQ} (hf0:MayC f0) (hf1:MayC f1) (hf2:MayC f2):List (Ev Tryz.prog):=[(sCCheck hf0).e,(sMtOf hf0.fit).e,.app appF,(sCCheck hf1).e,(sMtOf hf1.fit).e,.app appF,(sCCheck hf2).e,(sMtOf hf2.fit).e,.app appF]
theorem oc3_eqs {f0 f1 f2:RQ} (hf0:MayC f0) (hf1:MayC f1) (hf2:MayC f2) (β:Env):(allS Tryz.prog Tryz.f272 oc3A [.box (oc3L f0 f1 f2) 112] (oc3E hf0 hf1 hf2) [] 1200 (.tup [.c (.b (.r 21 3)),nI' 0]) (oc3O f0 f1 f2) β).map Prod.fst=(allS Tryz.prog Tryz.f272 oc3A [.box (oc3L f0 f1 f2) 112] (oc3E hf0 hf1 hf2) [] 1200 (.tup [.c (.b (.r 21 3)),nI' 0]) (oc3O f0 f1 f2) β).map Prod.snd:=by kernel_rfl
theorem open3_ok {f0 f1 f2:RQ} (hf0:MayC f0) (hf1:MayC f1) (hf2:MayC f2) (β:Env) (w:World) (hh:(Ob.box (oc3L f0 f1 f2) 112).holds β w (β 0)) :
  Calls Tryz.prog 272 (oc3A.map (SV.den β)).toArray w fun e u=>∃ xs:List Pl,(∀ x∈xs,∀ c,x.F c→w.heap.size≤c)∧e=.returned ((SV.tup [.c (.b (.y 1 12 3)),nI' 0]).den (extE β 1 xs))∧newHold u [rowT FRT (fr3 f0 f1 f2)] xs∧Below w.heap.size w u:=by
 refine (sx (P:=Tryz.prog) oc3A [.box (oc3L f0 f1 f2) 112] (oc3E hf0 hf1 hf2) [] 1200 (.tup [.c (.b (.r 21 3)),nI' 0]) (oc3O f0 f1 f2) Tryz.func272 hmA (fun β=>ok_of_maps (oc3_eqs hf0 hf1 hf2 β)) (by kernel_rfl) (by kernel_rfl) β w (fun k o ho=>?_)).mono ?_
 · cases k with
   | zero=>simp only [List.getElem?_cons_zero] at ho; obtain rfl:=Option.some.inj ho; exact hh
   | succ k=>simp at ho
 · rintro e u ⟨β',q',obj,e1,rfl,e2,e4,e5,g⟩
   have hnew:∀ y∈oc3O f0 f1 f2,∀ c,(β' y.1).F c→c≠(β 0).b→w.heap.size≤c:=fun y hy c hc hne=>by
    rcases e4 y hy c hc with h | ⟨i,hi,h⟩
    · exact h
    · obtain rfl:i=0:=by simp only [List.length_singleton] at hi; omega
      exact absurd ((hh.1.1 c).1 h) hne
   have hu:u.heap[(β 0).b]?=some (.cells ((oc3L f0 f1 f2).map (Lf.den β)).toArray 112 (0,0)):=by rw [g.bel.block _ (heap_lt hh.2)]; exact hh.2
   have hrat:∀ (k:Nat) (x:Rat),(k,(ratT x).ob)∈oc3O f0 f1 f2→PR x u (β' k)∧∀ c,(β' k).F c→w.heap.size≤c:=fun k x hk=>by
    have h:PR x u (β' k):=e5 _ hk
    refine ⟨h,fun c hc=>?_⟩
    obtain ⟨b,hb,hx⟩:=h
    have ec:=(hb.2 c).1 hc
    subst ec
    refine hnew _ hk c hc fun e=>?_
    rw [e] at hx
    exact str_no_rat hu hx
   obtain ⟨o2,n2⟩:=hrat 2 f0.a (by simp [oc3O])
   obtain ⟨o3,n3⟩:=hrat 3 f0.b.re (by simp [oc3O])
   obtain ⟨o4,n4⟩:=hrat 4 f0.b.im (by simp [oc3O])
   obtain ⟨o5,n5⟩:=hrat 5 f0.c (by simp [oc3O])
   obtain ⟨o9,n9⟩:=hrat 9 f1.a (by simp [oc3O])
   obtain ⟨o10,n10⟩:=hrat 10 f1.b.re (by simp [oc3O])
   obtain ⟨o11,n11⟩:=hrat 11 f1.b.im (by simp [oc3O])
   obtain ⟨o12,n12⟩:=hrat 12 f1.c (by simp [oc3O])
   obtain ⟨o16,n16⟩:=hrat 16 f2.a (by simp [oc3O])
   obtain ⟨o17,n17⟩:=hrat 17 f2.b.re (by simp [oc3O])
   obtain ⟨o18,n18⟩:=hrat 18 f2.b.im (by simp [oc3O])
   obtain ⟨o19,n19⟩:=hrat 19 f2.c (by simp [oc3O])
   obtain ⟨hone,cur,hcur,hcl,hn,hcm,hsz,htake⟩:=e5 (21,.row [.b (.z 2 0),.b (.z 3 0),.b (.z 4 0),.b (.z 5 0),.b (.z 9 0),.b (.z 10 0),.b (.z 11 0),.b (.z 12 0),.b (.z 16 0),.b (.z 17 0),.b (.z 18 0),.b (.z 19 0)] FRT 3 4) (by simp [oc3O])
   have hbR:w.heap.size≤(β' 21).b:=hnew _ (by simp [oc3O]) _ ((hone.1 _).2 rfl) fun e=>by
    rw [e,hu] at hcur
    have:=(Obj.cells.inj (Option.some.inj hcur)).2.1
    exact absurd this (by decide)
   refine ⟨[⟨(β' 21).b,fun i=>match i with | 0=>(β' 2).v 0 | 1=>(β' 3).v 0 | 2=>(β' 4).v 0 | 3=>(β' 5).v 0 | 4=>(β' 9).v 0 | 5=>(β' 10).v 0 | 6=>(β' 11).v 0 | 7=>(β' 12).v 0 | 8=>(β' 16).v 0 | 9=>(β' 17).v 0 | 10=>(β' 18).v 0 | 11=>(β' 19).v 0 | 12=>some ⟨(β' 21).b,0,none⟩ | _=>none,fun _=>(β' 21).c 0,fun c=>c=(β' 21).b∨(β' 2).F c∨(β' 3).F c∨(β' 4).F c∨(β' 5).F c∨(β' 9).F c∨(β' 10).F c∨(β' 11).F c∨(β' 12).F c∨(β' 16).F c∨(β' 17).F c∨(β' 18).F c∨(β' 19).F c,fun _=>undef⟩],fun x hx c hc=>?_,rfl,⟨⟨⟨.inl rfl,cur,hcur,?_⟩,⟨⟨or_cdT o2 rfl fun c hc=>.inr (.inl hc),or_cdT o3 rfl fun c hc=>.inr (.inr (.inl hc)),or_cdT o4 rfl fun c hc=>.inr (.inr (.inr (.inl hc))),or_cdT o5 rfl fun c hc=>.inr (.inr (.inr (.inr (.inl hc)))),or_cdT o9 rfl fun c hc=>.inr (.inr (.inr (.inr (.inr (.inl hc))))),or_cdT o10 rfl fun c hc=>.inr (.inr (.inr (.inr (.inr (.inr (.inl hc)))))),or_cdT o11 rfl fun c hc=>.inr (.inr (.inr (.inr (.inr (.inr (.inr (.inl hc))))))),or_cdT o12 rfl fun c hc=>.inr (.inr (.inr (.inr (.inr (.inr (.inr (.inr (.inl hc)))))))),or_cdT o16 rfl fun c hc=>.inr (.inr (.inr (.inr (.inr (.inr (.inr (.inr (.inr (.inl hc))))))))),or_cdT o17 rfl fun c hc=>.inr (.inr (.inr (.inr (.inr (.inr (.inr (.inr (.inr (.inr (.inl hc)))))))))),or_cdT o18 rfl fun c hc=>.inr (.inr (.inr (.inr (.inr (.inr (.inr (.inr (.inr (.inr (.inr (.inl hc))))))))))),or_cdT o19 rfl fun c hc=>.inr (.inr (.inr (.inr (.inr (.inr (.inr (.inr (.inr (.inr (.inr (.inr hc))))))))))),trivial⟩,rfl⟩,fun c hc=>?_⟩,trivial⟩,g.bel⟩
   · obtain rfl:=List.mem_singleton.1 hx
     rcases hc with rfl | hc | hc | hc | hc | hc | hc | hc | hc | hc | hc | hc | hc
     · exact hbR
     · exact n2 c hc
     · exact n3 c hc
     · exact n4 c hc
     · exact n5 c hc
     · exact n9 c hc
     · exact n10 c hc
     · exact n11 c hc
     · exact n12 c hc
     · exact n16 c hc
     · exact n17 c hc
     · exact n18 c hc
     · exact n19 c hc
   · have:(fr3 f0 f1 f2).length=3*4:=rfl
     rw [this,htake]
     rfl
   · rcases hc with rfl | hc | hc | hc | hc | hc | hc | hc | hc | hc | hc | hc | hc
     · exact heap_lt hcur
     · exact (pr_stable _).lt u _ o2 c hc
     · exact (pr_stable _).lt u _ o3 c hc
     · exact (pr_stable _).lt u _ o4 c hc
     · exact (pr_stable _).lt u _ o5 c hc
     · exact (pr_stable _).lt u _ o9 c hc
     · exact (pr_stable _).lt u _ o10 c hc
     · exact (pr_stable _).lt u _ o11 c hc
     · exact (pr_stable _).lt u _ o12 c hc
     · exact (pr_stable _).lt u _ o16 c hc
     · exact (pr_stable _).lt u _ o17 c hc
     · exact (pr_stable _).lt u _ o18 c hc
     · exact (pr_stable _).lt u _ o19 c hc
noncomputable def sOpen3 {f0 f1 f2:RQ} (hf0:MayC f0) (hf1:MayC f1) (hf2:MayC f2):CSpec Tryz.prog :=
 ⟨272,Tryz.call272,oc3A,oc3L f0 f1 f2,112,.tup [.c (.b (.y 1 12 3)),nI' 0],[rowT FRT (fr3 f0 f1 f2)],open3_ok hf0 hf1 hf2,by kernel_rfl⟩
abbrev frS (f:RQ):SV:=.one (.a (cC f))
abbrev fcS (x:Rat):SV:=.one (.a (fC x))
abbrev one1:Rat:=Rat.divInt 1 1
theorem fsq_sz {f g:RQ} {k:Nat} (hf:RSz k f) (hg:RSz k g) (h0:fpr f f*fpr g g≠0):Sz (psz k k+psz k k+(psz k k+psz k k)) (fsq f g):=div_sz ((fpr_sz hf hg).mul (fpr_sz hf hg)) ((fpr_sz hf hf).mul (fpr_sz hg hg)) h0
abbrev KH:Nat:=1100
def lieK (s:Bool) (c:Int):Int:=bif s then 0 else if c = -1 then 2 else if c=0 then 1 else 3
theorem cmpQ_cases (x y:Rat):cmpQ x y = -1∨cmpQ x y=0∨cmpQ x y=1:=by
 unfold cmpQ
 split
 · exact .inl rfl
 · split
   · exact .inr (.inr rfl)
   · exact .inr (.inl rfl)
theorem one_szH:Sz 8 one1:=one_sz
inductive AxK where
 | both
 | one
 | two
 | none
def axAt (f g:RQ):AxK→Prop
 | .both=>decide (f.a=0)=true∧decide (g.a=0)=true
 | .one=>decide (f.a=0)=true∧decide (g.a=0)=false
 | .two=>decide (f.a=0)=false∧decide (g.a=0)=true
 | .none=>decide (f.a=0)=false∧decide (g.a=0)=false
theorem axAt_all (f g:RQ):∃ k,axAt f g k:=by
 cases h1:decide (f.a=0)<;>cases h2:decide (g.a=0)
 · exact ⟨.none,h1,h2⟩
 · exact ⟨.two,h1,h2⟩
 · exact ⟨.one,h1,h2⟩
 · exact ⟨.both,h1,h2⟩
def ovb (f g:RQ):Rat:=Rat.divInt (-2) 1*fpr f g/fpr f f
def ovQ (f g:RQ):RQ:=pls g f one1 (ovb f g)
theorem ov_pow {f g:RQ} (h0:fpr f f≠0):rpow (ovQ f g)=rpow g:=by
 have h1:one1=1:=of_decide_eq_true (by kernel_rfl:decide (one1=1)=true)
 have h2:(Rat.divInt (-2) 1:Rat) = -2:=of_decide_eq_true (by kernel_rfl:decide ((Rat.divInt (-2) 1:Rat) = -2)=true)
 have h3:(Rat.divInt 2 1:Rat)=2:=of_decide_eq_true (by kernel_rfl:decide ((Rat.divInt 2 1:Rat)=2)=true)
 obtain ⟨b,hb⟩:∃ b,b=ovb f g:=⟨_,rfl⟩
 have hb2:b*fpr f f = -2*fpr f g:=by
  rw [hb,ovb,h2,Rat.div_def,Rat.mul_assoc,Rat.inv_mul_cancel _ h0,Rat.mul_one]
 unfold ovQ
 rw [← hb,h1]
 unfold fpr at hb2
 rw [h3] at hb2
 unfold rpow gnorm pls
 dsimp only
 grind
theorem cspec0 {P:Program} {f:FuncId} {fn:Func} {args:List SV} {cs:List Lf} {t:TypeId} {res:SV} (evs:List (Ev P)) (Ns:List (Nat × Nat)) (m:Nat) (hf:P.funcs[f]?=some fn) (hm:P.follows .mixedOrders=true)
  (h:∀ β,(allS P fn args [.box cs t] evs Ns m res [] β).map Prod.fst=(allS P fn args [.box cs t] evs Ns m res [] β).map Prod.snd)
  (hB:(args.all (SV.of fun k=>Nat.blt k 1)&&[Ob.box cs t].all fun x=>x.of (fun k=>Nat.blt k 1)&&x.own)=true) (hr:res.of (fun _=>false)=true) (β:Env) (w:World) (hh:(Ob.box cs t).holds β w (β 0)) :
  Calls P f (args.map (SV.den β)).toArray w fun e w'=>∃ xs:List Pl,(∀ x∈xs,∀ c,x.F c→w.heap.size≤c)∧e=.returned (res.den (extE β 1 xs))∧newHold w' [] xs∧Below w.heap.size w w':=by
 rw [Bool.and_eq_true] at hB
 refine (sx (P:=P) args [.box cs t] evs Ns m res [] hf hm (fun β=>ok_of_maps (h β)) hB.1 hB.2 β w (fun k o ho=>?_)).mono ?_
 · cases k with
   | zero=>simp only [List.getElem?_cons_zero] at ho; obtain rfl:=Option.some.inj ho; exact hh
   | succ k=>simp at ho
 · rintro e w' ⟨β',q,obj,_,rfl,_,_,_,g⟩
   exact ⟨[],(fun _ h=>by cases h),by rw [SV.den_congr (q:=fun _=>false) (fun k hk=>by cases hk) res hr],trivial,g.bel⟩
abbrev fvV (f:Nat):SV:=.one (.c (.f (.func f) [] []))
abbrev CIT:TypeId:=112
abbrev rwV:SV:=.one (.c (.b (.y 0 8 2)))
abbrev tldA (f:Nat):List SV:=[fvV f,.one (.c (.b (.s 0 0 2 2)))]
theorem MayC.szh {r:RQ} (h:MayC r):RSz KH r:=(show RSz 1024 r from ⟨h.fit.1.sz,h.fit.2.1.gsz,h.fit.2.2.sz⟩).mono (by decide)
theorem MayC.ff {r:RQ} (h:MayC r):fpr r r≠0:=by
 intro e
 have:=of_decide_eq_false h.pow
 rw [← rpow_fpr,e] at this
 exact this (by decide)
section
variable {f g:RQ} (hf:MayC f) (hg:MayC g)
noncomputable def rd2E (f g:RQ):List (Ev Tryz.prog):=[dIdxF (fr2 f g),dForm (fr2 f g)]
include hf hg in
theorem ffgg:fpr f f*fpr g g≠0:=fun e=>(Rat.mul_eq_zero.1 e).elim hf.ff hg.ff
noncomputable def sSq1:Spec Tryz.prog :=
 Spec.auto Tryz.call287 [rwV] [rowT FRT (fr2 f g)] (.tup [.c (.b (.z 1 0)),nI' 0]) [ratT (fsq f g)] (rd2E f g++rd2E f g++[(sMtSq (hf.szh.mono (by decide)) (hg.szh.mono (by decide)) (ffgg hf hg)).e]) [(1,9)] 400 Tryz.func287 hmA (by kernel_rfl) (fun β=>by kernel_rfl)
noncomputable def sMTldS:CSpec Tryz.prog :=
 ⟨286,Tryz.call286,tldA 287,oc2L f g,CIT,.tup [.a (fA (fsq f g)),nI' (ansK (fsq f g))],[],fun β w hh =>
  cspec0 [(sOpen2 hf hg).e,(sSq1 hf hg).e,(sFrac ((fsq_sz hf.szh hg.szh (ffgg hf hg)).mono (by decide))).e] [] 800 Tryz.func286 hmA (fun β=>by kernel_rfl) (by kernel_rfl) (by kernel_rfl) β w hh,by kernel_rfl⟩
noncomputable def sMSq:Spec Tryz.prog :=
 Spec.auto Tryz.call120 [frS f,frS g] [] (.tup [.a (fA (fsq f g)),nI' (ansK (fsq f g))]) [] [(sMTldS hf hg).e] [] 400 Tryz.func120 hmA (by kernel_rfl) (fun β=>by kernel_rfl)
noncomputable def liE (hf:MayC f) (hg:MayC g) {c:Int} (hc:cmpQ (fsq f g) one1=c):List (Ev Tryz.prog) :=
 [(sOpen2 hf hg).e]++rd2E f g++rd2E f g++[(sMtSq (hf.szh.mono (by decide)) (hg.szh.mono (by decide)) (ffgg hf hg)).e,(sMtNum 1).e,nCmp ((fsq_sz hf.szh hg.szh (ffgg hf hg)).mono (by decide)) (one_sz.mono (by decide)) hc]
theorem fsq_self {f:RQ} (h:fpr f f≠0):fsq f f=one1:=by
 have h1:one1=1:=of_decide_eq_true (by kernel_rfl:decide (one1=1)=true)
 rw [h1,fsq,Rat.div_def,Rat.mul_inv_cancel _ (fun e=>(Rat.mul_eq_zero.1 e).elim h h)]
noncomputable def sMLies {s:Bool} (hs:eqRone f g=s) {c:Int} (hc:cmpQ (fsq f g) one1=c):Spec Tryz.prog :=
 ⟨121,Tryz.call121,[frS f,frS g],[],.tup [nI' (lieK s c),nI' 0],[],fun β w hh=>by
  have hk:s=true→c=0:=fun e=>by
   rw [e] at hs
   have hfg:=eqRone_iff.1 hs
   subst hfg
   rw [← hc,fsq_self hf.ff]
   exact cmp_self _
  rcases cmpQ_cases (fsq f g) one1 with h | h | h<;>rw [hc] at h
  · cases s with
    | true=>rw [hk rfl] at h; cases h
    | false=>subst h; exact spec_auto (evs:=liE hf hg hc) (Ns:=[(5,10)]) (m:=800) Tryz.func121 hmA (fun β=>by kernel_rfl) (by kernel_rfl) β w hh
  · subst h
    cases s<;>exact spec_auto (evs:=liE hf hg hc++[eqEvR f g hs]) (Ns:=[(5,10)]) (m:=800) Tryz.func121 hmA (fun β=>by kernel_rfl) (by kernel_rfl) β w hh
  · cases s with
    | true=>rw [hk rfl] at h; cases h
    | false=>subst h; exact spec_auto (evs:=liE hf hg hc) (Ns:=[(5,10)]) (m:=800) Tryz.func121 hmA (fun β=>by kernel_rfl) (by kernel_rfl) β w hh,by kernel_rfl⟩
noncomputable def sMUp {b:Bool} (hb:decide (fpr f g=0)=b):Spec Tryz.prog :=
 Spec.auto Tryz.call114 [frS f,frS g] [] (.tup [.c (.b (.v (.bool b))),nI' 0]) []
  ([(sOpen2 hf hg).e]++rd2E f g++rd2E f g++[(sMtProd (hf.szh.mono (by decide)) (hg.szh.mono (by decide))).e,nSign (x:=fpr f g) rfl,.eqv 26 (.bool ((fpr f g).num.sign==0)) (.bool b) (sign_lit hb)]) [(2,16)] 800 Tryz.func114 hmA (by kernel_rfl) (fun β=>by kernel_rfl)
def sgR (d:Nat) {x:Rat} {b:Bool} (h:decide (x=0)=b):List (Ev Tryz.prog):=[nSign (x:=x) rfl,.eqv d (.bool (x.num.sign==0)) (.bool b) (sign_lit h)]
theorem sgn_gt0 {x:Rat}:Value.bool (decide (0<x.num.sign))=.bool (!decide (x.num.sign≤0)):=by
 congr 1
 rw [Bool.eq_iff_iff]
 simp only [decide_eq_true_iff,Bool.not_eq_true',decide_eq_false_iff_not]
 omega
noncomputable def sAxBoth (h1:decide (f.a=0)=true) (h2:decide (g.a=0)=true):Spec Tryz.prog :=
 Spec.auto Tryz.call250 [rgV 0,rgV 4] (rgT f++rgT g) (.tup [nil4V,.c (.b (.v (.bool false)))]) [] (sgR 11 h1++sgR 16 h2) [(7,6),(8,7)] 800 Tryz.func250 hmA (by kernel_rfl) (fun β=>by kernel_rfl)
noncomputable def sAxOne (h1:decide (f.a=0)=true) (h2:decide (g.a=0)=false):Spec Tryz.prog :=
 Spec.auto Tryz.call250 [rgV 0,rgV 4] (rgT f++rgT g) (.tup [rgC 0,.c (.b (.v (.bool true)))]) [] (sgR 11 h1++sgR 16 h2++sgR 23 h1) [(7,6),(8,7)] 800 Tryz.func250 hmA (by kernel_rfl) (fun β=>by kernel_rfl)
noncomputable def sAxTwo (h1:decide (f.a=0)=false) (h2:decide (g.a=0)=true):Spec Tryz.prog :=
 Spec.auto Tryz.call250 [rgV 0,rgV 4] (rgT f++rgT g) (.tup [rgC 4,.c (.b (.v (.bool true)))]) [] (sgR 11 h1++sgR 23 h1++sgR 29 h2) [(7,6),(8,7)] 800 Tryz.func250 hmA (by kernel_rfl) (fun β=>by kernel_rfl)
include hf hg in
theorem axq_szK:RSz 5000 (axQ f g):=(pls_sz hf.szh hg.szh one_sz mone8).mono (by decide)
noncomputable def sAxNone (h1:decide (f.a=0)=false) (h2:decide (g.a=0)=false) {b:Bool} (hb:decide ((fpr (axQ f g) (axQ f g)).num.sign≤0)=b):Spec Tryz.prog :=
 Spec.auto Tryz.call250 [rgV 0,rgV 4] (rgT f++rgT g) (.tup [rgC 8,.c (.b (.v (.bool (!b))))]) (rgT (axQ f g))
  (sgR 11 h1++sgR 23 h1++sgR 29 h2++[(sMtNum 1).e,(sMtNum (-1)).e,(sMtPlus (hf.szh.mono (by decide)) (hg.szh.mono (by decide)) (one_sz.mono (by decide)) (mone8.mono (by decide))).e,(sMtProd ((axq_szK hf hg).mono (by decide)) ((axq_szK hf hg).mono (by decide))).e,
   nSign (x:=fpr (axQ f g) (axQ f g)) rfl,.eqv 41 (.bool (decide (0<(fpr (axQ f g) (axQ f g)).num.sign))) (.bool (!b)) (by rw [sgn_gt0,hb])]) [(7,6),(8,11006007)] 1200 Tryz.func250 hmA (by kernel_rfl) (fun β=>by kernel_rfl)
noncomputable def sAx1Both (h1:decide (f.a=0)=true) (h2:decide (g.a=0)=true):Spec Tryz.prog :=
 Spec.auto Tryz.call355 [rwV] [rowT FRT (fr2 f g)] (.tup [nil4V,.c (.b (.v (.bool false)))]) [] (rd2E f g++rd2E f g++[(sAxBoth h1 h2).e]) [(1,9)] 400 Tryz.func355 hmA (by kernel_rfl) (fun β=>by kernel_rfl)
noncomputable def sAx1One (h1:decide (f.a=0)=true) (h2:decide (g.a=0)=false):Spec Tryz.prog :=
 Spec.auto Tryz.call355 [rwV] [rowT FRT (fr2 f g)] (.tup [rgC 1,.c (.b (.v (.bool true)))]) (rgT f) (rd2E f g++rd2E f g++[(sAxOne h1 h2).e]) [(1,9)] 400 Tryz.func355 hmA (by kernel_rfl) (fun β=>by kernel_rfl)
noncomputable def sAx1Two (h1:decide (f.a=0)=false) (h2:decide (g.a=0)=true):Spec Tryz.prog :=
 Spec.auto Tryz.call355 [rwV] [rowT FRT (fr2 f g)] (.tup [rgC 1,.c (.b (.v (.bool true)))]) (rgT g) (rd2E f g++rd2E f g++[(sAxTwo h1 h2).e]) [(1,9)] 400 Tryz.func355 hmA (by kernel_rfl) (fun β=>by kernel_rfl)
noncomputable def sAx1None (h1:decide (f.a=0)=false) (h2:decide (g.a=0)=false) {b:Bool} (hb:decide ((fpr (axQ f g) (axQ f g)).num.sign≤0)=b):Spec Tryz.prog :=
 Spec.auto Tryz.call355 [rwV] [rowT FRT (fr2 f g)] (.tup [rgC 1,.c (.b (.v (.bool (!b))))]) (rgT (axQ f g)) (rd2E f g++rd2E f g++[(sAxNone hf hg h1 h2 hb).e]) [(1,9)] 400 Tryz.func355 hmA (by kernel_rfl) (fun β=>by kernel_rfl)
noncomputable def axP (f g:RQ):AxK→SV
 | .both=>.tup [.a c0C,nI' 7]
 | .one=>mxA f
 | .two=>mxA g
 | .none=>mxA (axQ f g)
noncomputable def sMadeAx {k:AxK} (hk:axAt f g k):CSpec Tryz.prog :=
 ⟨265,Tryz.call265,tldA 355,oc2L f g,CIT,axP f g k,[],fun β w hh=>by
  cases k with
  | both=>exact cspec0 [(sOpen2 hf hg).e,(sAx1Both hk.1 hk.2).e] [] 800 Tryz.func265 hmA (fun β=>by kernel_rfl) (by kernel_rfl) (by kernel_rfl) β w hh
  | one=>exact cspec0 [(sOpen2 hf hg).e,(sAx1One hk.1 hk.2).e,(sMtCircle (hf.szh.mono (by decide))).e] [] 800 Tryz.func265 hmA (fun β=>by kernel_rfl) (by kernel_rfl) (by kernel_rfl) β w hh
  | two=>exact cspec0 [(sOpen2 hf hg).e,(sAx1Two hk.1 hk.2).e,(sMtCircle (hg.szh.mono (by decide))).e] [] 800 Tryz.func265 hmA (fun β=>by kernel_rfl) (by kernel_rfl) (by kernel_rfl) β w hh
  | none =>
   have hr:decide ((fpr (axQ f g) (axQ f g)).num.sign≤0)=wtB (axQ f g):=by rw [rpow_fpr]; rfl
   cases hp:wtB (axQ f g) with
   | true =>
    show Calls _ _ _ _ fun e w'=>∃ xs:List Pl,_∧e=.returned ((mxA (axQ f g)).den (extE β 1 xs))∧_
    rw [mxA,(mx_no hp).1,(mx_no hp).2]
    exact cspec0 [(sOpen2 hf hg).e,(sAx1None hf hg hk.1 hk.2 (hr.trans hp)).e] [] 800 Tryz.func265 hmA (fun β=>by kernel_rfl) (by kernel_rfl) (by kernel_rfl) β w hh
   | false=>exact cspec0 [(sOpen2 hf hg).e,(sAx1None hf hg hk.1 hk.2 (hr.trans hp)).e,(sMtCircle ((axq_szK hf hg).mono (by decide))).e] [] 800 Tryz.func265 hmA (fun β=>by kernel_rfl) (by kernel_rfl) (by kernel_rfl) β w hh,by cases k<;>kernel_rfl⟩
noncomputable def sMAxis {k:AxK} (hk:axAt f g k):Spec Tryz.prog :=
 ⟨246,Tryz.call246,[frS f,frS g],[],axP f g k,[],fun β w hh=>by
  cases k<;>exact spec_auto (evs:=[(sMadeAx hf hg hk).e]) (Ns:=[]) (m:=400) Tryz.func246 hmA (fun β=>by kernel_rfl) (by kernel_rfl) β w hh,by cases k<;>kernel_rfl⟩
abbrev ovB (f g:RQ):Rat:=fpr f g/fpr f f
abbrev ovP (f g:RQ):RQ:=pls g f one1 (ovB f g*Rat.divInt (-2) 1)
theorem ovP_eq (f g:RQ):ovP f g=ovQ f g:=by
 unfold ovP ovQ ovB ovb
 rw [Rat.div_def,Rat.div_def]
 congr 1
 grind
include hf hg in
theorem ovB_sz:Sz 20000 (ovB f g):=(div_sz (fpr_sz hf.szh hg.szh) (fpr_sz hf.szh hf.szh) hf.ff).mono (by decide)
include hf hg in
theorem ovP_sz:RSz 30000 (ovP f g):=(pls_sz hg.szh hf.szh one_szH ((ovB_sz hf hg).mul two_sz)).mono (by decide)
noncomputable def sOv1:Spec Tryz.prog :=
 Spec.auto Tryz.call266 [rwV] [rowT FRT (fr2 f g)] (.tup [rgC 1,.c (.b (.v (.bool true)))]) (rgT (ovP f g))
  (rd2E f g++rd2E f g++[(sMtProd (hf.szh.mono (by decide)) (hg.szh.mono (by decide))).e]++rd2E f g++rd2E f g++[(sMtProd (hf.szh.mono (by decide)) (hf.szh.mono (by decide))).e,(sMtQuo ((fpr_sz hf.szh hg.szh).mono (by decide)) ((fpr_sz hf.szh hf.szh).mono (by decide)) hf.ff).e] ++
   rd2E f g++rd2E f g++[(sMtNum 1).e,(sMtNum (-2)).e,(sMtMul ((ovB_sz hf hg).mono (by decide)) (two_sz.mono (by decide))).e,(sMtPlus (hg.szh.mono (by decide)) (hf.szh.mono (by decide)) (one_sz.mono (by decide)) (((ovB_sz hf hg).mul two_sz).mono (by decide))).e])
  [(1,16),(2,11)] 1200 Tryz.func266 hmA (by kernel_rfl) (fun β=>by kernel_rfl)
noncomputable def sMadeOv:CSpec Tryz.prog :=
 ⟨265,Tryz.call265,tldA 266,oc2L f g,CIT,mxA (ovP f g),[],fun β w hh =>
  cspec0 [(sOpen2 hf hg).e,(sOv1 hf hg).e,(sMtCircle ((ovP_sz hf hg).mono (by decide))).e] [] 800 Tryz.func265 hmA (fun β=>by kernel_rfl) (by kernel_rfl) (by kernel_rfl) β w hh,by kernel_rfl⟩
noncomputable def sMOver:Spec Tryz.prog :=
 (Spec.auto Tryz.call113 [frS f,frS g] [] (mxA (ovP f g)) [] [(sMadeOv hf hg).e] [] 400 Tryz.func113 hmA (by kernel_rfl) (fun β=>by kernel_rfl)).conv (mxA (ovQ f g)) (congrArg mxA (ovP_eq f g))
variable {s t:Rat} (hs:Fit s) (ht:Fit t)
abbrev PRT:TypeId:=149
noncomputable def sMix1:OSpec Tryz.prog :=
 OSpec.auto Tryz.call277 [.one (.c (.b (.y 0 8 2))),.one (.c (.b (.p 3 0))),.one (.c (.b (.p 4 0)))] [(rowT FRT (fr2 f g)).ob,(ratT s).ob,(ratT t).ob,.box [.b (.z 1 0)] PRT,.box [.b (.z 2 0)] PRT] (.tup [rgC 5,.c (.b (.v (.bool true)))])
  [(pls f g s t).a,(pls f g s t).b.re,(pls f g s t).b.im,(pls f g s t).c] (rd2E f g++rd2E f g++[(sMtPlus (hf.szh.mono (by decide)) (hg.szh.mono (by decide)) (hs.sz.mono (by decide)) (ht.sz.mono (by decide))).e]) [(1,9)] 600 Tryz.func277 hmA (by kernel_rfl) (fun β=>by kernel_rfl)
abbrev mxV:SV:=.one (.c (.f (.func 277) [] [.p 2 0,.p 3 0]))
include hf hg hs ht in
theorem mix_sz:RSz 5000 (pls f g s t):=(pls_sz hf.szh hg.szh hs.sz ht.sz).mono (by decide)
noncomputable def sMadeMix:OSpec Tryz.prog :=
 OSpec.auto Tryz.call265 [mxV,.one (.c (.b (.s 4 0 2 2)))] [(ratT s).ob,(ratT t).ob,.box [.b (.z 0 0)] PRT,.box [.b (.z 1 0)] PRT,.box (oc2L f g) CIT] (mxA (pls f g s t)) []
  [(sOpen2 hf hg).e,(sMix1 hf hg hs ht).e,(sMtCircle ((mix_sz hf hg hs ht).mono (by decide))).e] [] 800 Tryz.func265 hmA (by kernel_rfl) (fun β=>by kernel_rfl)
noncomputable def sMMix:Spec Tryz.prog :=
 Spec.auto Tryz.call117 [frS f,frS g,fcS s,fcS t] [] (mxA (pls f g s t)) [] [(sRatIn hs).e,(sRatIn ht).e,dEq s,dEq t,(sMadeMix hf hg hs ht).e] [(1,6)] 800 Tryz.func117 hmA (by kernel_rfl) (fun β=>by kernel_rfl)
end
def fullM (P:Program) (mo:Nat) (fn:Func) (args:List SV) (obs:List Ob) (evs:List (Ev P)) (Ns:List (Nat × Nat)) (m:Nat) (c:Code):Option (Cf P) :=
 runC P mo (sizeS fn args) Ns m (some c) [] ⟨startS args 0,fun k=>Nat.blt k obs.length,obs,evs,[]⟩
def allM (P:Program) (mo:Nat) (fn:Func) (args:List SV) (obs:List Ob) (evs:List (Ev P)) (Ns:List (Nat × Nat)) (m:Nat) (res:SV) (outs:List (Nat × Ob)) (β:Env):Eqs :=
 match fn.body with
 | some c=>match fullM P mo fn args obs evs Ns m c with
  | some f=>fin1 P fn mo (sizeS fn args) res outs f β
  | none=>Eqs.no
 | none=>Eqs.no
def bdM (w:World) (mo n:Nat) (β:Env):Bd:=⟨w.heap.size,fun c=>∃ i,mo≤i∧i<n∧c=(β i).b,n⟩
theorem sxM {P:Program} {f:FuncId} {fn:Func} (mo:Nat) (args:List SV) (obs:List Ob) (evs:List (Ev P)) (Ns:List (Nat × Nat)) (m:Nat) (res:SV) (outs:List (Nat × Ob)) (hf:P.funcs[f]?=some fn) (hm:P.follows .mixedOrders=true)
  (hok:∀ β,Eqs.ok (allM P mo fn args obs evs Ns m res outs β)) (hmo:mo≤obs.length)
  (hargs:args.all (SV.of fun k=>Nat.blt k obs.length)=true) (hobs:obs.all (fun x=>x.of (fun k=>Nat.blt k obs.length)&&x.own)=true)
  (hlay:∀ k,mo≤k→k<obs.length→isLayB obs[k]?=true) (houts:∀ k,mo≤k→k<obs.length→∃ x p,(k,x)∈outs∧x.layOf=some p)
  (β:Env) (w:World) (hh:∀ (k:Nat) (o:Ob),obs[k]?=some o→o.holds β w (β k))
  (hsep:∀ k j,mo≤k→k<obs.length→j<obs.length→j≠k→¬ (β j).F (β k).b) :
  Calls P f (args.map (SV.den β)).toArray w fun e w'=>∃ (β':Env) (q:Nat→Bool),(∀ k,k<obs.length→β' k=β k)∧e=.returned (res.den β')∧res.of q=true∧(∀ p∈outs,p.2.isTh=true→∀ c,(β' p.1).F c→(w.heap.size≤c∧∀ i,mo≤i→i<obs.length→c≠(β i).b)∨∃ i,i<mo∧(β i).F c)∧holdsAll β' w' outs∧Keep (bdM w mo obs.length β) w w':=by
 have hnal:∀ (k r:Nat) (D:Thing),obs[k]?≠some (.al r D):=fun k r D ho=>by
  have:=List.all_eq_true.1 hobs _ (List.mem_of_getElem? ho)
  simp [Ob.own] at this
 have huq:UniqAl obs:=fun k j i D _ h1 _=>absurd h1 (hnal k i D)
 have hlt:∀ k,k<obs.length→∀ c,(β k).F c→c<w.heap.size:=fun k hk c hc=>by
  have h:=hh k _ (List.getElem?_eq_getElem hk)
  cases hx:obs[k] with
  | box cs t=>rw [hx] at h; rw [(h.1.1 c).1 hc]; exact heap_lt h.2
  | th D=>rw [hx] at h; exact D.st.lt _ _ h c hc
  | al r D=>rw [hx] at h; exact D.st.lt _ _ h c hc
  | pl n=>rw [hx] at h; rw [(h.1.1 c).1 hc]; exact h.2.lt
  | row cs t n sz=>rw [hx] at h; rw [(h.1.1 c).1 hc]; exact heap_lt h.2.choose_spec.1
  | ow D t=>rw [hx] at h; exact D.st.lt _ _ h.2 c hc
  | dead =>
   have:=List.all_eq_true.1 hobs _ (List.mem_of_getElem? (List.getElem?_eq_getElem hk))
   rw [hx] at this
   simp [Ob.own] at this
 have hone:∀ k,mo≤k→k<obs.length→(β k).one:=fun k h1 h2=>by
  have hl:=hlay k h1 h2
  obtain ⟨y,p,e1,e2⟩:=isLayB_iff hl
  have h3:=hh k y e1
  rw [e1] at hl
  cases y with
  | box cs t=>exact h3.1
  | row cs t n sz=>exact h3.1
  | _=>cases hl
 have hnpl:∀ k N,mo≤k→k<obs.length→obs[k]?≠some (.pl N):=fun k N h1 h2 e=>by
  obtain ⟨y,p,e1,e2⟩:=isLayB_iff (hlay k h1 h2)
  rw [e] at e1
  rw [← Option.some.inj e1] at e2
  cases e2
 cases hb:fn.body with
 | none=>have:=hok β; unfold allM at this; rw [hb] at this; exact (Eqs.no_ok this).elim
 | some c =>
  have h1:∀ β,Eqs.ok (match fullM P mo fn args obs evs Ns m c with | some f=>fin1 P fn mo (sizeS fn args) res outs f β | none=>Eqs.no):=fun β=>by
   have:=hok β
   unfold allM at this
   rw [hb] at this
   exact this
  cases hr:fullM P mo fn args obs evs Ns m c with
  | none=>have:=h1 β; rw [hr] at this; exact (Eqs.no_ok this).elim
  | some g =>
   have h2:∀ β,Eqs.ok (fin1 P fn mo (sizeS fn args) res outs g β):=fun β=>by have:=h1 β; rw [hr] at this; exact this
   unfold fullM at hr
   obtain ⟨_,r2,r3⟩:=runC_ok hm _ _ _ _ _ hr ⟨fun k=>by dsimp only; rw [Nat.blt_eq],huq⟩
   have fin:∃ r:R1 Value,run1 P mo false (results fn (tmpsS idE g.sl (sizeS fn args))) g.q g.ob []=some r∧res.of g.q=true∧r.ob.length=g.ob.length ∧
     ∀ β,Eqs.ok (chk P β (results fn (tmpsS β g.sl (sizeS fn args))) r.tr.reverse (fun u=>[(.v u,.v (res.den β))])++(needEqs g.q g.ob outs++eqsOf β g.cs)):=by
    cases hx:run1 P mo false (results fn (tmpsS idE g.sl (sizeS fn args))) g.q g.ob [] with
    | none=>have:=h2 β; unfold fin1 at this; rw [hx] at this; exact (Eqs.no_ok this).elim
    | some r =>
     obtain ⟨ra,rq,rob,rtr⟩:=r
     cases hc:(res.of g.q&&Nat.beq rob.length g.ob.length&&Nat.beq g.ev.length 0) with
     | false=>have:=h2 β; unfold fin1 at this; rw [hx] at this; dsimp only at this; rw [hc] at this; exact (Eqs.no_ok this).elim
     | true =>
      have h3:=hc
      simp only [Bool.and_eq_true,Nat.beq_eq] at hc
      refine ⟨_,rfl,hc.1.1,hc.1.2,fun β=>?_⟩
      have:=h2 β
      unfold fin1 at this
      rw [hx] at this
      dsimp only at this
      rw [h3] at this
      exact this
   obtain ⟨r,f1,f2,f3,f4⟩:=fin
   have hgood:g.good:=fun β x hx=>eqsOf_ok (fun p hp=>f4 β p (List.mem_append.2 (.inr (List.mem_append.2 (.inr hp))))) x hx
   refine calls_of_wp hf hb (r3 hgood (B0:=bdM w mo obs.length β) (w0:=w) (β:=β) ⟨⟨Keep.refl _ _,Nat.le_refl _,fun k o hk ho=>⟨hh k o ho,(Bool.and_eq_true _ _▸List.all_eq_true.1 hobs o (List.mem_of_getElem? ho)).1⟩,fun k hk=>hlt k (by simpa [Nat.blt_eq] using hk),
    fun k j hk hj hne hm _ _=>hsep k j hm (by simpa [Nat.blt_eq] using hk) (by simpa [Nat.blt_eq] using hj) hne,fun k _ hk hm _ _=>.inr ⟨k,hm,by simpa [Nat.blt_eq] using hk,rfl⟩,
    fun k hk hm c hc=>.inl (.inr ⟨k,hm,by simpa [Nat.blt_eq] using hk,((hone k hm (by simpa [Nat.blt_eq] using hk)).1 c).1 hc⟩),fun i hi=>by rw [Nat.blt_eq]; omega,fun k r D _ ho=>?_,fun k r D _ ho=>absurd ho (hnal k r D),
    fun k i _ hi _ hm _ ⟨N,hp⟩=>absurd hp (hnpl i N hm (by simpa [Nat.blt_eq] using hi))⟩,fun k=>by dsimp only; rw [Nat.blt_eq],⟨?_,fun t=>?_⟩,fun t=>?_,⟨hmo,Nat.le_refl _⟩,rfl,huq⟩ _ fun β' a' w' e s=>?_)
   · exact absurd ho (hnal k r D)
   · simp [sizeS]
   · rw [look_start,if_pos (Nat.zero_le _),Nat.sub_zero]
     simp only [Array.getD_eq_getD_getElem?,Array.getElem?_append,List.size_toArray,List.length_map,List.getElem?_toArray,List.getElem?_map]
     split
     · rename_i hlt2
       rw [List.getElem?_eq_getElem hlt2]
       rfl
     · rename_i hge
       rw [List.getElem?_eq_none (by omega)]
       simp [Array.getElem?_replicate]
       split<;>rfl
   · dsimp only
     rw [look_start,if_pos (Nat.zero_le _),Nat.sub_zero]
     cases hx:args[t]? with
     | none=>rfl
     | some x=>exact List.all_eq_true.1 hargs x (List.mem_of_getElem? hx)
   · have e:∀ k,k<obs.length→β' k=β k:=e
     obtain ⟨h5,_,_,tr,h8,h9⟩:=run1_ok _ _ _ _ _ f1 (fun k hk=>(s.q k).1 hk)
     obtain ⟨k1,obj',k2,k3,k4⟩:=h9 _ _ _ _ _ _ s.good (fun k hk=>⟨hk,rfl⟩) (fun k a b=>by omega) s.m0.1
     have h6:=f4 β'
     rw [h8,List.append_nil,List.reverse_reverse] at h6
     have h7:Eqs.ok (chk P β' (results fn (tmpsS β' g.sl (sizeS fn args))) tr (fun u=>[(.v u,.v (res.den β'))])):=fun p hp=>h6 p (List.mem_append.2 (.inl hp))
     obtain ⟨v,hv,hv2⟩:=chk_run _ _ _ h7 k1
     obtain ⟨e1,_⟩:=Eqs.cons_ok hv2
     injection e1 with e1
     subst e1
     rw [f3,rangeQ_self] at k4
     have hend:trEnd β' w' tr=w':=by
      obtain ⟨tr2,x1,x2⟩:=run1_still _ _ _ _ _ f1 (fun k hk=>(s.q k).1 hk) f3
      rw [h8,List.append_nil,List.append_nil] at x1
      rw [List.reverse_inj.1 x1]
      exact x2 β' w'
     rw [hend] at hv k4
     rw [← tmps_eq s.sl] at hv
     have hneed:Eqs.ok (needEqs g.q g.ob outs):=fun p hp=>f4 β' p (List.mem_append.2 (.inr (List.mem_append.2 (.inl hp))))
     have hout:∀ p∈outs,p.2.isTh=true→∀ c,(β' p.1).F c→(w.heap.size≤c∧∀ i,mo≤i→i<obs.length→c≠(β i).b)∨∃ i,i<mo∧(β i).F c:=fun p hp hth c hc=>by
      have hpq:=needs_q _ hneed p hp
      obtain ⟨z,hz,hzp⟩:=needs_get hneed p hp
      have hzt:z.isTh=true:=Ob.plain_th (y:=z) (x:=p.2) (by rw [hzp]; exact hth)
      have hno:∀ i,mo≤i→i<obs.length→p.1≠i∧¬ (β' p.1).F (β i).b:=fun i i1 i2=>by
       obtain ⟨x,pl,hx,hxl⟩:=houts i i1 i2
       obtain ⟨y,hy,hyp⟩:=needs_get hneed _ hx
       have hyl:y.layOf=some pl:=by
        cases y with
        | th D=>cases x<;>first | (cases hxl; done) | (cases hyp; done)
        | al r D=>cases x<;>first | (cases hxl; done) | (cases hyp; done)
        | box cs t=>have h:Ob.box cs t=x:=hyp; rw [h]; exact hxl
        | pl n=>have h:Ob.pl n=x:=hyp; rw [h]; exact hxl
        | row cs t n sz=>have h:Ob.row cs t n sz=x:=hyp; rw [h]; exact hxl
        | ow D t=>have h:Ob.ow D t=x:=hyp; rw [h]; exact hxl
        | dead=>have h:Ob.dead=x:=hyp; rw [h]; exact hxl
       have hne:p.1≠i:=fun e2=>by
        rw [e2] at hz
        have hy':g.ob[i]?=some y:=hy
        rw [hz] at hy'
        rw [Option.some.inj hy'] at hzt
        cases y<;>first | (cases hyl; done) | (cases hzt; done)
       refine ⟨hne,?_⟩
       rw [← e i i2]
       exact s.good.ne i p.1 (needs_q _ hneed _ hx) hpq hne i1 (.inl ⟨y,hy,pl,hyl⟩) (by
        show g.ob[p.1]?≠_
        rw [hz]
        intro e2
        rw [Option.some.inj e2] at hzt
        cases hzt)
      by_cases h0:mo≤p.1
      · rcases s.good.fr p.1 hpq h0 c hc with (h10 | ⟨i,i1,i2,i3⟩) | ⟨i,i1,i2⟩
        · exact .inl ⟨h10,fun i i1 i2 e2=>(hno i i1 i2).2 (e2▸hc)⟩
        · exact absurd (i3▸hc) (hno i i1 i2).2
        · exact .inr ⟨i,i1,by rw [← e i (by omega)]; exact i2⟩
      · exact .inr ⟨p.1,by omega,by rw [← e p.1 (by omega)]; exact hc⟩
     have hres:bodyPost P fn (fun e w'=>∃ (β':Env) (q:Nat→Bool),(∀ k,k<obs.length→β' k=β k)∧e=.returned (res.den β')∧res.of q=true∧(∀ p∈outs,p.2.isTh=true→∀ c,(β' p.1).F c→(w.heap.size≤c∧∀ i,mo≤i→i<obs.length→c≠(β i).b)∨∃ i,i<mo∧(β i).F c)∧holdsAll β' w' outs∧Keep (bdM w mo obs.length β) w w') .normal a' w' :=
      ⟨s.defers,_,hv,β',g.q,e,rfl,f2,hout,needs_hold s.good (fun k hk=>⟨hk,rfl⟩) _ hneed,k4.bel⟩
     exact ⟨hres,hres⟩
def Ob.renL (ρ:Nat→Nat):Ob→Ob
 | .box cs t=>.box (cs.map (Lf.ren ρ)) t
 | .row cs t n sz=>.row (cs.map (Lf.ren ρ)) t n sz
 | x=>x
theorem Ob.renL_holds {β:Env} {w:World} {g:Pl} {ρ:Nat→Nat}:∀ {o:Ob},(o.renL ρ).holds β w g↔o.holds (fun k=>β (ρ k)) w g
 | .box cs t=>by
  have h:(cs.map (Lf.ren ρ)).map (Lf.den β)=cs.map (Lf.den fun k=>β (ρ k)):=by
   rw [List.map_map]
   exact List.map_congr_left fun x _=>Lf.den_ren β ρ x
  show (g.one∧w.heap[g.b]?=some (.cells ((cs.map (Lf.ren ρ)).map (Lf.den β)).toArray t (0,0)))↔_
  rw [h]
  exact Iff.rfl
 | .row cs t n sz=>by
  have h:(cs.map (Lf.ren ρ)).map (Lf.den β)=cs.map (Lf.den fun k=>β (ρ k)):=by
   rw [List.map_map]
   exact List.map_congr_left fun x _=>Lf.den_ren β ρ x
  show (g.one∧∃ cur,w.heap[g.b]?=some (.cells cur t (0,0))∧(cs.map (Lf.ren ρ)).length=n*sz∧n≤g.c 0∧g.c 0≤maxLen∧cur.size=g.c 0*sz∧cur.toList.take (n*sz)=(cs.map (Lf.ren ρ)).map (Lf.den β))↔_
  rw [h,List.length_map]
  exact Iff.rfl
 | .th _=>Iff.rfl
 | .al _ _=>Iff.rfl
 | .pl _=>Iff.rfl
 | .ow _ _=>Iff.rfl
 | .dead=>Iff.rfl
structure MSpec (P:Program) where
 f:FuncId
 en:Enters P f
 args:List SV
 obs:List Thing
 a:Ob
 b:Ob
 res:SV
 news:List Thing
 ok:∀ β w,(∀ (k:Nat) (t:Thing),obs[k]?=some t→t.D w (β k))→a.holds β w (β obs.length)→Calls P f (args.map (SV.den β)).toArray w fun e w'=>∃ xs:List Pl,freshS β w obs.length xs∧e=.returned (res.den (extE β (obs.length+1) xs))∧newHold w' news xs∧b.holds (extE β (obs.length+1) xs) w' (β obs.length)∧TouchL w w' [(β obs.length).b]
 closed:(args.all (SV.of fun k=>Nat.blt k (obs.length+1))&&(a.of (fun k=>Nat.blt k (obs.length+1))&&(b.of (fun k=>Nat.blt k (obs.length+1+news.length))&&res.of fun k=>Nat.blt k (obs.length+1+news.length))))=true
def atM (σ:List Nat) (m n k:Nat):Nat:=lit (bif Nat.blt k (m+1) then σ.getD k 0 else n+(k-(m+1))) fun j=>j
def needsM (σ:List Nat):List Thing→Nat→List (Nat × Ob)
 | [],_=>[]
 | t::r,k=>lit (σ.getD k 0) fun j=>(j,t.ob)::needsM σ r (k+1)
theorem needsM_at {σ:List Nat}:∀ {l:List Thing} {i k:Nat} {t:Thing},l[k]?=some t→(σ.getD (i+k) 0,t.ob)∈needsM σ l i
 | x::r,i,0,t,h=>by
  simp only [List.getElem?_cons_zero] at h
  obtain rfl:=Option.some.inj h
  unfold needsM
  rw [lit_eq]
  exact List.mem_cons_self ..
 | x::r,i,k+1,t,h=>by
  have:=needsM_at (σ:=σ) (l:=r) (i:=i+1) (k:=k) (t:=t) (by simpa using h)
  unfold needsM
  rw [lit_eq,show i+(k+1)=i+1+k by omega]
  exact List.mem_cons_of_mem _ this
theorem Ob.holds_cgL {q:Nat→Bool} {β β':Env} {w:World} {g:Pl} (hq:∀ k,q k=true→β k=β' k) {o:Ob} (h:o.of q=true) (k:o.holds β w g):o.holds β' w g:=Ob.holds_congr hq o h k
def MSpec.ev {P:Program} (S:MSpec P) (σ:List Nat) (n:Nat) (hσ:(Nat.ble (S.obs.length+1) σ.length&&σ.all fun k=>Nat.blt k n)=true):Ev P :=
 .mut S.f S.en (fun β=>(S.args.map (SV.den fun k=>β (atM σ S.obs.length n k))).toArray) (needsM σ S.obs 0) [⟨lit (σ.getD S.obs.length 0) fun j=>j,S.a.renL (atM σ S.obs.length n),S.b.renL (atM σ S.obs.length n)⟩] n (S.res.ren (atM σ S.obs.length n)) S.news fun β w h hm=>by
  have hc:=S.closed
  simp only [Bool.and_eq_true] at hc
  obtain ⟨hc1,hc2,hc3,hc4⟩:=hc
  have hat:∀ k,k<S.obs.length+1→atM σ S.obs.length n k=σ.getD k 0:=fun k hk=>by
   unfold atM
   rw [lit_eq,show Nat.blt k (S.obs.length+1)=true by rw [Nat.blt_eq]; exact hk,cond_true]
  have hat2:∀ k,¬ k<S.obs.length+1→atM σ S.obs.length n k=n+(k-(S.obs.length+1)):=fun k hk=>by
   unfold atM
   rw [lit_eq,show Nat.blt k (S.obs.length+1)=false by rw [Bool.eq_false_iff,ne_eq,Nat.blt_eq]; exact hk,cond_false]
  rw [Bool.and_eq_true,Nat.ble_eq] at hσ
  have hsn:∀ k,k<S.obs.length+1→σ.getD k 0<n:=fun k hk=>by
   rw [List.getD_eq_getElem?_getD]
   cases hx:σ[k]? with
   | none=>rw [List.getElem?_eq_none_iff] at hx; omega
   | some y=>have:=List.all_eq_true.1 hσ.2 y (List.mem_of_getElem? hx); rw [Nat.blt_eq] at this; exact this
  have h1:=hm _ (List.mem_singleton.2 rfl)
  dsimp only at h1
  rw [lit_eq] at h1
  have hγ:atM σ S.obs.length n S.obs.length=σ.getD S.obs.length 0:=hat _ (by omega)
  refine (S.ok (fun k=>β (atM σ S.obs.length n k)) w (fun k t hk=>?_) ?_).mono ?_
  · have hlt:k<S.obs.length:=(List.getElem?_eq_some_iff.1 hk).1
    have:=h _ (needsM_at (i:=0) hk)
    rw [Nat.zero_add] at this
    show t.D w (β (atM σ S.obs.length n k))
    rw [hat k (by omega)]
    exact this
  · show S.a.holds (fun k=>β (atM σ S.obs.length n k)) w (β (atM σ S.obs.length n S.obs.length))
    rw [hγ]
    exact Ob.renL_holds.1 h1
  · rintro e w' ⟨xs,k1,rfl,k3,k4,k5⟩
    replace k4:S.b.holds (extE (fun k=>β (atM σ S.obs.length n k)) (S.obs.length+1) xs) w' (β (atM σ S.obs.length n S.obs.length)):=k4
    replace k5:TouchL w w' [(β (atM σ S.obs.length n S.obs.length)).b]:=k5
    rw [hγ] at k4 k5
    have hlen:=(newHold_get k3).1
    have hall:∀ k,Nat.blt k (S.obs.length+1+S.news.length)=true→extE (fun k=>β (atM σ S.obs.length n k)) (S.obs.length+1) xs k=extE β n xs (atM σ S.obs.length n k):=fun k hk=>by
     rw [Nat.blt_eq] at hk
     by_cases hk2:k<S.obs.length+1
     · have:=hsn k hk2
       rw [hat k hk2,extE_out (β:=β) (n:=n) (k:=σ.getD k 0) (xs:=xs) (by omega),extE_out (n:=S.obs.length+1) (k:=k) (xs:=xs) (by omega),hat k hk2]
     · rw [hat2 k hk2]
       have h5:k-(S.obs.length+1)<xs.length:=by omega
       rw [extE_in (List.getElem?_eq_getElem h5)]
       have:=extE_in (β:=fun k=>β (atM σ S.obs.length n k)) (n:=S.obs.length+1) (List.getElem?_eq_getElem h5)
       rw [show S.obs.length+1+(k-(S.obs.length+1))=k by omega] at this
       exact this
    refine ⟨xs,fun x hx c hc5=>?_,?_,k3,fun m hm2=>?_,?_⟩
    · rcases k1 x hx c hc5 with h5 | ⟨i,h5,h6⟩
      · exact .inl h5
      · refine .inr ⟨_,needsM_at (σ:=σ) (i:=0) (List.getElem?_eq_getElem h5),rfl,?_⟩
        rw [Nat.zero_add]
        have h7:(β (atM σ S.obs.length n i)).F c:=h6
        rw [hat i (by omega)] at h7
        exact h7
    · rw [SV.den_ren]
      congr 1
      exact SV.den_congr hall _ hc4
    · obtain rfl:=List.mem_singleton.1 hm2
      dsimp only
      rw [lit_eq]
      exact Ob.renL_holds.2 (Ob.holds_cgL hall hc3 k4)
    · rw [List.map_cons,List.map_nil]
      dsimp only
      rw [lit_eq]
      exact k5
def mtLay (o c:Ob):List (Nat × Nat):=match o,c with
 | .box xs _,.box ys _=>mtLs xs ys
 | .row xs _ _ _,.row ys _ _ _=>mtLs xs ys
 | _,_=>[]
def sigR {P:Program} (S:MSpec P) (xs:List SV) (ob:List Ob):List Nat :=
 sigL (mtVs S.args xs++(match ob[sigM (mtVs S.args xs) S.obs.length]? with | some c=>mtLay S.a c | none=>[])) 0 (S.obs.length+1)
def MSpec.e {P:Program} (S:MSpec P):Ev P:=.dyn (fun o _ _=>isCallB o) fun _ xs ob =>
 lits (sigR S xs ob) fun σ=>lit ob.length fun n=>if h:(Nat.ble (S.obs.length+1) σ.length&&σ.all fun k=>Nat.blt k n)=true then S.ev σ n h else .eqv 0 undef undef rfl
structure CRow (P:Program) where
 f:FuncId
 en:Enters P f
 args:List SV
 cs:List Lf
 t:TypeId
 row:Ob
 res:SV
 news:List Thing
 ok:∀ β w,(Ob.box cs t).holds β w (β 0)→Calls P f (args.map (SV.den β)).toArray w fun e w'=>∃ (g:Pl) (xs:List Pl),(w.heap.size≤g.b∧(∀ x∈xs,∀ c,x.F c→w.heap.size≤c)∧∀ x∈xs,¬ x.F g.b)∧e=.returned (res.den (extE β 1 (g::xs)))∧row.holds (extE β 1 (g::xs)) w' g∧newHold w' news xs∧Below w.heap.size w w'
 cl:(cs.all (Lf.of fun _=>false)&&(args.all (SV.of fun k=>Nat.beq k 0)&&(row.of (fun k=>Nat.ble 1 k&&Nat.blt k (2+news.length))&&res.of fun k=>Nat.ble 1 k&&Nat.blt k (2+news.length))))=true
def bkOfZ:List SV→Nat
 | []=>0
 | .one (.c (.b (.s k _ _ _)))::_=>k
 | _::r=>bkOfZ r
def CRow.e {P:Program} (S:CRow P):Ev P:=.dyn (fun o _ _=>isCallB o) fun _ xs ob=>lit (bkOfZ xs) fun i=>lit ob.length fun n =>
 .own S.f S.en (fun β=>(S.args.map (SV.den fun _=>β i)).toArray) [(i,.box S.cs S.t)] n (S.row.renL fun k=>n+(k-1)) (S.res.ren fun k=>n+(k-1)) S.news (fun β w h=>by
  have hc:=S.cl
  simp only [Bool.and_eq_true] at hc
  obtain ⟨c1,c2,c3,c4⟩:=hc
  have h1:(β i).one∧w.heap[(β i).b]?=some (.cells (S.cs.map (Lf.den β)).toArray S.t (0,0)):=h _ (List.mem_singleton.2 rfl)
  refine (S.ok (fun _=>β i) w ?_).mono ?_
  · show (β i).one∧w.heap[(β i).b]?=some (.cells (S.cs.map (Lf.den fun _=>β i)).toArray S.t (0,0))
    rw [show S.cs.map (Lf.den fun _=>β i)=S.cs.map (Lf.den β) from List.map_congr_left fun x hx=>Lf.den_congr (q:=fun _=>false) (fun k hk=>by cases hk) x (List.all_eq_true.1 c1 x hx)]
    exact h1
  · rintro e w' ⟨g,xs,⟨k1,k2,k3⟩,rfl,k5,k6,k7⟩
    have hlen:=(newHold_get k6).1
    have hall:∀ k,(Nat.ble 1 k&&Nat.blt k (2+S.news.length))=true→extE (fun _=>β i) 1 (g::xs) k=extE β n (g::xs) (n+(k-1)):=fun k hk=>by
     rw [Bool.and_eq_true,Nat.ble_eq,Nat.blt_eq] at hk
     have h5:k-1<(g::xs).length:=by rw [List.length_cons]; omega
     rw [extE_in (List.getElem?_eq_getElem h5)]
     have:=extE_in (β:=fun _=>β i) (n:=1) (List.getElem?_eq_getElem h5)
     rw [show 1+(k-1)=k by omega] at this
     exact this
    refine ⟨g,xs,⟨k1,fun x hx c hc=>.inl (k2 x hx c hc),k3⟩,?_,Ob.renL_holds.2 (Ob.holds_cgL hall c3 k5),k6,k7⟩
    rw [SV.den_ren]
    congr 1
    exact SV.den_congr hall _ c4)
theorem plain_lay {y x:Ob} (h:y.plain x=x) (hl:x.layOf.isSome=true):y.layOf.isSome=true:=by
 rw [← h] at hl
 cases y with
 | box cs t=>rfl
 | row cs t n sz=>rfl
 | th D=>cases x<;>first | (cases hl; done) | (simp only [Ob.plain] at hl; revert hl; cases Nat.beq _ _<;>exact fun h=>by cases h)
 | al r D=>cases x<;>first | (cases hl; done) | (simp only [Ob.plain] at hl; revert hl; cases Nat.beq _ _<;>exact fun h=>by cases h)
 | pl n=>cases hl
 | ow D t=>rfl
 | dead=>cases hl
theorem need_lay {q:Nat→Bool} {ob:List Ob}:∀ (outs:List (Nat × Ob)),Eqs.ok (needEqs q ob outs)→∀ p∈outs,p.2.layOf.isSome=true→∃ x,ob[p.1]?=some x∧x.layOf.isSome=true
 | [],_,p,hp,_=>by cases hp
 | (k,x)::r,h,p,hp,hl=>by
  unfold needEqs at h
  cases hq:q k with
  | false=>rw [hq] at h; exact (Eqs.no_ok h).elim
  | true =>
   cases ho:ob[k]? with
   | none=>rw [hq,ho] at h; exact (Eqs.no_ok h).elim
   | some y =>
    rw [hq,ho] at h
    obtain ⟨e1,e2⟩:=Eqs.cons_ok h
    rcases List.mem_cons.1 hp with rfl | hp
    · injection e1 with e1
      exact ⟨y,ho,plain_lay e1 hl⟩
    · exact need_lay r e2 p hp hl
theorem sxN {P:Program} {f:FuncId} {fn:Func} (args:List SV) (obs:List Ob) (evs:List (Ev P)) (Ns:List (Nat × Nat)) (m:Nat) (res:SV) (outs:List (Nat × Ob)) (hf:P.funcs[f]?=some fn) (hm:P.follows .mixedOrders=true)
  (hok:∀ β,Eqs.ok (allS P fn args obs evs Ns m res outs β))
  (hargs:args.all (SV.of fun k=>Nat.blt k obs.length)=true) (hobs:obs.all (fun x=>x.of (fun k=>Nat.blt k obs.length)&&x.own)=true) (β:Env) (w:World) (hh:∀ (k:Nat) (o:Ob),obs[k]?=some o→o.holds β w (β k)) :
  Calls P f (args.map (SV.den β)).toArray w fun e w'=>∃ (β':Env) (q:Nat→Bool) (obj:Nat→Option Ob),(∀ k,k<obs.length→β' k=β k)∧e=.returned (res.den β')∧res.of q=true∧(∀ p∈outs,∀ c,(β' p.1).F c→w.heap.size≤c∨∃ i,i<obs.length∧(β i).F c)∧holdsAll β' w' outs∧Fin w w'∧∀ p∈outs,p.2.layOf.isSome=true→obs.length≤p.1→w.heap.size≤(β' p.1).b:=by
 have hnal:∀ (k r:Nat) (D:Thing),obs[k]?≠some (.al r D):=fun k r D ho=>by
  have:=List.all_eq_true.1 hobs _ (List.mem_of_getElem? ho)
  simp [Ob.own] at this
 have huq:UniqAl obs:=fun k j i D _ h1 _=>absurd h1 (hnal k i D)
 have hlt:∀ k,k<obs.length→∀ c,(β k).F c→c<w.heap.size:=fun k hk c hc=>by
  have h:=hh k _ (List.getElem?_eq_getElem hk)
  cases hx:obs[k] with
  | box cs t=>rw [hx] at h; rw [(h.1.1 c).1 hc]; exact heap_lt h.2
  | th D=>rw [hx] at h; exact D.st.lt _ _ h c hc
  | al r D=>rw [hx] at h; exact D.st.lt _ _ h c hc
  | pl n=>rw [hx] at h; rw [(h.1.1 c).1 hc]; exact h.2.lt
  | row cs t n sz=>rw [hx] at h; rw [(h.1.1 c).1 hc]; exact heap_lt h.2.choose_spec.1
  | ow D t=>rw [hx] at h; exact D.st.lt _ _ h.2 c hc
  | dead =>
   have:=List.all_eq_true.1 hobs _ (List.mem_of_getElem? (List.getElem?_eq_getElem hk))
   rw [hx] at this
   simp [Ob.own] at this
 cases hb:fn.body with
 | none=>have:=hok β; unfold allS at this; rw [hb] at this; exact (Eqs.no_ok this).elim
 | some c =>
  have h1:∀ β,Eqs.ok (match fullS P fn args obs evs Ns m c with | some f=>fin1 P fn obs.length (sizeS fn args) res outs f β | none=>Eqs.no):=fun β=>by
   have:=hok β
   unfold allS at this
   rw [hb] at this
   exact this
  cases hr:fullS P fn args obs evs Ns m c with
  | none=>have:=h1 β; rw [hr] at this; exact (Eqs.no_ok this).elim
  | some g =>
   have h2:∀ β,Eqs.ok (fin1 P fn obs.length (sizeS fn args) res outs g β):=fun β=>by have:=h1 β; rw [hr] at this; exact this
   unfold fullS at hr
   obtain ⟨_,r2,r3⟩:=runC_ok hm _ _ _ _ _ hr ⟨fun k=>by dsimp only; rw [Nat.blt_eq],huq⟩
   have fin:∃ r:R1 Value,run1 P obs.length false (results fn (tmpsS idE g.sl (sizeS fn args))) g.q g.ob []=some r∧res.of g.q=true∧r.ob.length=g.ob.length ∧
     ∀ β,Eqs.ok (chk P β (results fn (tmpsS β g.sl (sizeS fn args))) r.tr.reverse (fun u=>[(.v u,.v (res.den β))])++(needEqs g.q g.ob outs++eqsOf β g.cs)):=by
    cases hx:run1 P obs.length false (results fn (tmpsS idE g.sl (sizeS fn args))) g.q g.ob [] with
    | none=>have:=h2 β; unfold fin1 at this; rw [hx] at this; exact (Eqs.no_ok this).elim
    | some r =>
     obtain ⟨ra,rq,rob,rtr⟩:=r
     cases hc:(res.of g.q&&Nat.beq rob.length g.ob.length&&Nat.beq g.ev.length 0) with
     | false=>have:=h2 β; unfold fin1 at this; rw [hx] at this; dsimp only at this; rw [hc] at this; exact (Eqs.no_ok this).elim
     | true =>
      have h3:=hc
      simp only [Bool.and_eq_true,Nat.beq_eq] at hc
      refine ⟨_,rfl,hc.1.1,hc.1.2,fun β=>?_⟩
      have:=h2 β
      unfold fin1 at this
      rw [hx] at this
      dsimp only at this
      rw [h3] at this
      exact this
   obtain ⟨r,f1,f2,f3,f4⟩:=fin
   have hgood:g.good:=fun β x hx=>eqsOf_ok (fun p hp=>f4 β p (List.mem_append.2 (.inr (List.mem_append.2 (.inr hp))))) x hx
   refine calls_of_wp hf hb (r3 hgood (B0:=bd0 w.heap.size obs.length) (w0:=w) (β:=β) ⟨⟨Keep.refl _ _,Nat.le_refl _,fun k o hk ho=>⟨hh k o ho,(Bool.and_eq_true _ _▸List.all_eq_true.1 hobs o (List.mem_of_getElem? ho)).1⟩,fun k hk=>hlt k (by simpa [Nat.blt_eq] using hk),fun k j hk _ _ hm=>?_,fun k _ hk hm=>?_,fun k hk hm=>?_,fun i hi=>by rw [Nat.blt_eq]; exact hi,fun k r D _ ho=>?_,fun k r D _ ho=>absurd ho (hnal k r D),fun k i _ hi _ hm=>by rw [Nat.blt_eq] at hi; omega⟩,fun k=>by dsimp only; rw [Nat.blt_eq],⟨?_,fun t=>?_⟩,fun t=>?_,⟨Nat.le_refl _,Nat.le_refl _⟩,rfl,huq⟩ _ fun β' a' w' e s=>?_)
   · rw [Nat.blt_eq] at hk; omega
   · rw [Nat.blt_eq] at hk; omega
   · rw [Nat.blt_eq] at hk; omega
   · exact absurd ho (hnal k r D)
   · simp [sizeS]
   · rw [look_start,if_pos (Nat.zero_le _),Nat.sub_zero]
     simp only [Array.getD_eq_getD_getElem?,Array.getElem?_append,List.size_toArray,List.length_map,List.getElem?_toArray,List.getElem?_map]
     split
     · rename_i hlt2
       rw [List.getElem?_eq_getElem hlt2]
       rfl
     · rename_i hge
       rw [List.getElem?_eq_none (by omega)]
       simp [Array.getElem?_replicate]
       split<;>rfl
   · dsimp only
     rw [look_start,if_pos (Nat.zero_le _),Nat.sub_zero]
     cases hx:args[t]? with
     | none=>rfl
     | some x=>exact List.all_eq_true.1 hargs x (List.mem_of_getElem? hx)
   · obtain ⟨h5,_,_,tr,h8,h9⟩:=run1_ok _ _ _ _ _ f1 (fun k hk=>(s.q k).1 hk)
     obtain ⟨k1,obj',k2,k3,k4⟩:=h9 _ _ _ _ _ _ s.good (fun k hk=>⟨hk,rfl⟩) (fun k a b=>by omega) s.m0.1
     have h6:=f4 β'
     rw [h8,List.append_nil,List.reverse_reverse] at h6
     have h7:Eqs.ok (chk P β' (results fn (tmpsS β' g.sl (sizeS fn args))) tr (fun u=>[(.v u,.v (res.den β'))])):=fun p hp=>h6 p (List.mem_append.2 (.inl hp))
     obtain ⟨v,hv,hv2⟩:=chk_run _ _ _ h7 k1
     obtain ⟨e1,_⟩:=Eqs.cons_ok hv2
     injection e1 with e1
     subst e1
     rw [f3,rangeQ_self] at k4
     have hend:trEnd β' w' tr=w':=by
      obtain ⟨tr2,x1,x2⟩:=run1_still _ _ _ _ _ f1 (fun k hk=>(s.q k).1 hk) f3
      rw [h8,List.append_nil,List.append_nil] at x1
      rw [List.reverse_inj.1 x1]
      exact x2 β' w'
     rw [hend] at hv k4
     rw [← tmps_eq s.sl] at hv
     have e:∀ k,k<obs.length→β' k=β k:=e
     have hout:∀ p:Nat × Ob,g.q p.1=true→∀ c,(β' p.1).F c→w.heap.size≤c∨∃ i,i<obs.length∧(β i).F c:=fun p hp c hc=>by
      by_cases h0:obs.length≤p.1
      · exact (s.good.fr p.1 hp h0 c hc).imp (fun a=>a.elim id False.elim) fun ⟨i,i1,i2⟩=>⟨i,i1,by rw [← e i i1]; exact i2⟩
      · exact .inr ⟨p.1,by omega,by rw [← e p.1 (by omega)]; exact hc⟩
     have hneed:Eqs.ok (needEqs g.q g.ob outs):=fun p hp=>f4 β' p (List.mem_append.2 (.inr (List.mem_append.2 (.inl hp))))
     have hlow:∀ p∈outs,p.2.layOf.isSome=true→obs.length≤p.1→w.heap.size≤(β' p.1).b:=fun p hp hl hm=>by
      obtain ⟨x,hx,hy⟩:=need_lay _ hneed p hp hl
      exact (s.good.lowm p.1 x (needs_q _ hneed p hp) hm hx (by cases hy2:x.layOf with | none=>rw [hy2] at hy; cases hy | some q=>exact lay_mine hy2)).elim id False.elim
     have hres:bodyPost P fn (fun e w'=>∃ (β':Env) (q:Nat→Bool) (obj:Nat→Option Ob),(∀ k,k<obs.length→β' k=β k)∧e=.returned (res.den β')∧res.of q=true∧(∀ p∈outs,∀ c,(β' p.1).F c→w.heap.size≤c∨∃ i,i<obs.length∧(β i).F c)∧holdsAll β' w' outs∧Fin w w'∧∀ p∈outs,p.2.layOf.isSome=true→obs.length≤p.1→w.heap.size≤(β' p.1).b) .normal a' w':=⟨s.defers,_,hv,β',g.q,obj',e,rfl,f2,fun p hp c hc=>hout p (needs_q _ hneed p hp) c hc,needs_hold s.good (fun k hk=>⟨hk,rfl⟩) _ hneed,⟨k4.bel.below⟩,fun p hp hl hm=>hlow p hp hl hm⟩
     exact ⟨hres,hres⟩
end Go.Proofs.YtpccljaooghafaaGreat.Y
end
