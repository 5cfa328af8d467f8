/- EyC, EyD, EyE, Rs4, Pts, Alg, Rs7, Rs10, Nrm, EyF, Rs8, MoA, MoC, EqM, One, L8, MkA, Mcp, Mpw, MeN, MeT, Mc3, MeA, L4, MoB. -/
import Derived.Test.YtdiemgedlfnlmaaGreatVk9
set_option linter.unnecessarySimpa false
set_option linter.unusedVariables false
set_option linter.unusedSimpArgs false
section
namespace Go.Proofs.YtdiemgedlfnlmaaGreat.Y
open Go Go.RowKit
set_option maxRecDepth 100000
def pI:Pt→Bool
 | .inf=>true
 | .fin _=>false
def pG:Pt→GQ
 | .inf=>g0
 | .fin z=>z
def pL (k:Nat) (p:Pt):List Lf:=[.b (.v (.bool (pI p))),.b (.z k 0),.b (.z (k+1) 0)]
abbrev pV (k:Nat) (p:Pt):SV:=.one (.a (pL k p))
def pM (p:Pt):List Thing:=gM (pG p)
def mA (k:Nat) (m:MQ):SC:=.a [.b (.z k 0),.b (.z (k+1) 0),.b (.z (k+2) 0),.b (.z (k+3) 0),.b (.z (k+4) 0),.b (.z (k+5) 0),.b (.z (k+6) 0),.b (.z (k+7) 0),.b (.v (.bool m.t))]
abbrev mV (k:Nat) (m:MQ):SV:=.one (mA k m)
def mM (m:MQ):List Thing:=gM m.a++gM m.b++gM m.c++gM m.d
def mT (m:MQ):List Thing:=gT m.a++gT m.b++gT m.c++gT m.d
def sBy (p:Pt):Spec Tryz.prog :=
 ⟨165,Tryz.call165,[pV 0 p],pM p,.tup [nA 2,nA 4],gM (byA p)++gM (byB p),fun β w hh=>by
  cases p
  · exact spec_auto (obs:=pM .inf) (evs:=[(sInt 1 0 (by decide) (by decide)).e,(sInt 0 0 (by decide) (by decide)).e]) (Ns:=[(3,3)]) (m:=400) Tryz.func165 hmA (fun β=>by kernel_rfl) (by kernel_rfl) β w hh
  · rename_i z
    exact spec_auto (obs:=pM (.fin z)) (evs:=[(sInt 1 0 (by decide) (by decide)).e]) (Ns:=[(3,3)]) (m:=400) Tryz.func165 hmA (fun β=>by kernel_rfl) (by kernel_rfl) β w hh,by kernel_rfl⟩
def sAcross {p q:Pt} (hp:PSz KE p) (hq:PSz KE q):Spec Tryz.prog :=
 Spec.auto Tryz.call287 [pV 0 p,pV 2 q] (pM p++pM q) (nV 4) (gT (gacross p q))
  [(sBy p).e,(sBy q).e,
 (sMul ((byA_sz hp (by decide)).mono (by decide)) (byB_sz (p:=q) (by decide))).e,(sMul (byB_sz (p:=p) (by decide)) ((byA_sz hq (by decide)).mono (by decide))).e,
 (sSub (((byA_sz hp (by decide)).mul (byB_sz (k:=KE) (p:=q) (by decide))).mono (by decide)) (((byB_sz (k:=KE) (p:=p) (by decide)).mul (byA_sz hq (by decide))).mono (by decide))).e] [(3,7)] 800 Tryz.func287 hmA (by kernel_rfl) (fun β=>by kernel_rfl)
def sDet {m:MQ} (h:MSz KE m):Spec Tryz.prog :=
 Spec.auto Tryz.call211 [mV 0 m] (mM m) (nV 8) (gT (mdet m))
  [(sMul (h.a.mono (by decide)) (h.d.mono (by decide))).e,(sMul (h.b.mono (by decide)) (h.c.mono (by decide))).e,(sSub ((h.a.mul h.d).mono (by decide)) ((h.b.mul h.c).mono (by decide))).e]
  [(1,11)] 400 Tryz.func211 hmA (by kernel_rfl) (fun β=>by kernel_rfl)
def sNormal {m:MQ} (h:MSz KM m) {b:Bool} (hb:gzero m.c=b) (h0:gzero (bif b then m.d else m.c)=false):Spec Tryz.prog :=
 ⟨308,Tryz.call308,[mV 0 m],mM m,mV 8 (mnormB m b),mT (mnormB m b),fun β w hh=>by
  cases b
  · exact spec_auto (obs:=mM m) (evs:=[(sZero hb).e,(sDiv h.a h.c h0).e,(sDiv h.b h.c h0).e,(sDiv h.c h.c h0).e,(sDiv h.d h.c h0).e]) (Ns:=[(4,19)]) (m:=400) Tryz.func308 hmA (fun β=>by kernel_rfl) (by kernel_rfl) β w hh
  · exact spec_auto (obs:=mM m) (evs:=[(sZero hb).e,(sDiv h.a h.d h0).e,(sDiv h.b h.d h0).e,(sDiv h.c h.d h0).e,(sDiv h.d h.d h0).e]) (Ns:=[(4,19)]) (m:=400) Tryz.func308 hmA (fun β=>by kernel_rfl) (by kernel_rfl) β w hh,by kernel_rfl⟩
def mstill (t:Bool):MQ:=⟨gint 1 0,g0,g0,gint 1 0,t⟩
theorem newHold4 {w:World} {t1 t2 t3 t4:Thing}:∀ {xs:List Pl},newHold w [t1,t2,t3,t4] xs→∃ a b c d,xs=[a,b,c,d]∧t1.D w a∧t2.D w b∧t3.D w c∧t4.D w d
 | [],h=>h.elim
 | [_],h=>h.2.elim
 | [_,_],h=>h.2.2.elim
 | [_,_,_],h=>h.2.2.2.elim
 | [a,b,c,d],h=>⟨a,b,c,d,rfl,h.1,h.2.1,h.2.2.1,h.2.2.2.1⟩
 | _::_::_::_::_::_,h=>h.2.2.2.2.elim
theorem still_ok (β:Env) (w:World) (hh:∀ (k:Nat) (t:Thing),([]:List Thing)[k]?=some t→t.D w (β k)) :
  Calls Tryz.prog 221 (([]:List SV).map (SV.den β)).toArray w fun e w'=>∃ xs:List Pl,freshS β w 0 xs∧e=.returned ((SV.one (.a [.b (.z 0 0),.b (.z 1 0),.b (.v (.pointer none)),.b (.v (.pointer none)),.b (.v (.pointer none)),.b (.v (.pointer none)),.b (.z 2 0),.b (.z 3 0),.b (.v (.bool false))])).den (extE β 0 xs))∧newHold w' [ratM (gint 1 0).re,ratM (gint 1 0).im,ratM (gint 1 0).re,ratM (gint 1 0).im] xs∧Below w.heap.size w w' :=
 spec_auto (evs:=[(sInt 1 0 (by decide) (by decide)).e,(sInt 1 0 (by decide) (by decide)).e]) (Ns:=[]) (m:=400) Tryz.func221 hmA (fun β=>by kernel_rfl) (by kernel_rfl) β w hh
theorem still_ok2 (β:Env) (w:World) (hh:∀ (k:Nat) (t:Thing),([]:List Thing)[k]?=some t→t.D w (β k)) :
  Calls Tryz.prog 221 (([]:List SV).map (SV.den β)).toArray w fun e w'=>∃ xs:List Pl,freshS β w 0 xs∧e=.returned ((mV 0 (mstill false)).den (extE β 0 xs))∧newHold w' [ratM (gint 1 0).re,ratM (gint 1 0).im,ratM 0,ratM 0,ratM 0,ratM 0,ratM (gint 1 0).re,ratM (gint 1 0).im] xs∧Below w.heap.size w w':=by
 refine (still_ok β w hh).mono fun e w' ⟨xs,h1,he,h2,h3⟩=>?_
 obtain ⟨a,b,c,d,rfl,k1,k2,k3,k4⟩:=newHold4 h2
 have hn:(ratM 0).D w' nilPl:=nil_or (decide_eq_true rfl) w'
 refine ⟨[a,b,nilPl,nilPl,nilPl,nilPl,c,d],fun x hx k hk=>?_,by rw [he]; kernel_rfl,⟨k1,k2,hn,hn,hn,hn,k3,k4,trivial⟩,h3⟩
 simp only [List.mem_cons,List.not_mem_nil,or_false] at hx
 rcases hx with rfl | rfl | rfl | rfl | rfl | rfl | rfl | rfl
 · exact h1 _ (by simp) k hk
 · exact h1 _ (by simp) k hk
 · exact hk.elim
 · exact hk.elim
 · exact hk.elim
 · exact hk.elim
 · exact h1 _ (by simp) k hk
 · exact h1 _ (by simp) k hk
def sStill:Spec Tryz.prog :=
 ⟨221,Tryz.call221,[],[],mV 0 (mstill false),[ratM (gint 1 0).re,ratM (gint 1 0).im,ratM 0,ratM 0,ratM 0,ratM 0,ratM (gint 1 0).re,ratM (gint 1 0).im],still_ok2,by kernel_rfl⟩
def sUndo {m:MQ} (h:MSz KM m) {b:Bool} (hb:gzero (mconj (mundo0 m) m.t).c=b) (h0:gzero (bif b then (mconj (mundo0 m) m.t).d else (mconj (mundo0 m) m.t).c)=false):Spec Tryz.prog :=
 ⟨206,Tryz.call206,[mV 0 m],mM m,mV 8 (mnormB (mconj (mundo0 m) m.t) b),mT (mnormB (mconj (mundo0 m) m.t) b),fun β w hh=>by
  obtain ⟨a,b',c,d,t⟩:=m
  cases t
  · exact spec_auto (obs:=mM ⟨a,b',c,d,false⟩) (evs:=[(sNeg b').e,(sNeg c).e,(sNormal (h.undo0.conj false) hb h0).e]) (Ns:=[(1,14),(3,13)]) (m:=400) Tryz.func206 hmA (fun β=>by kernel_rfl) (by kernel_rfl) β w hh
  · exact spec_auto (obs:=mM ⟨a,b',c,d,true⟩) (evs:=[(sNeg b').e,(sNeg c).e,(sConj d).e,(sConj (gneg b')).e,(sConj (gneg c)).e,(sConj a).e,(sNormal (h.undo0.conj true) hb h0).e]) (Ns:=[(1,14),(3,13)]) (m:=400) Tryz.func206 hmA (fun β=>by kernel_rfl) (by kernel_rfl) β w hh,by kernel_rfl⟩
def mulE {z w:GQ} (hz:GSz KE z) (hw:GSz KE w):Ev Tryz.prog:=(sMul (hz.mono (by decide)) (hw.mono (by decide))).e
def mulMulAdd {z w u v:GQ} (hz:GSz KE z) (hw:GSz KE w) (hu:GSz KE u) (hv:GSz KE v):List (Ev Tryz.prog) :=
 [mulE hz hw,mulE hu hv,(sAdd ((hz.mul hw).mono (by decide)) ((hu.mul hv).mono (by decide))).e]
def behE {m n:MQ} (h:MSz KE m) (k:MSz KE n):List (Ev Tryz.prog) :=
 mulMulAdd h.a k.a h.b k.c++mulMulAdd h.a k.b h.b k.d++mulMulAdd h.c k.a h.d k.c++mulMulAdd h.c k.b h.d k.d
def conjE (n:MQ):List (Ev Tryz.prog):=[(sConj n.a).e,(sConj n.b).e,(sConj n.c).e,(sConj n.d).e]
def sBehind {m n:MQ} (h:MSz KE m) (k:MSz KE n) {b:Bool} (hb:gzero (mbeh m n).c=b) (h0:gzero (bif b then (mbeh m n).d else (mbeh m n).c)=false):Spec Tryz.prog :=
 ⟨223,Tryz.call223,[mV 0 m,mV 8 n],mM m++mM n,mV 16 (mnormB (mbeh m n) b),mT (mnormB (mbeh m n) b),fun β w hh=>by
  obtain ⟨a,b',c,d,t⟩:=m
  obtain ⟨a2,b2,c2,d2,t2⟩:=n
  cases t
  · cases t2<;>exact spec_auto (obs:=mM ⟨a,b',c,d,_⟩++mM ⟨a2,b2,c2,d2,_⟩) (evs:=behE h k++[(sNormal ((h.beh k).mono (by decide)) hb h0).e]) (Ns:=[(2,13),(3,51)]) (m:=800) Tryz.func223 hmA (fun β=>by kernel_rfl) (by kernel_rfl) β w hh
  · cases t2<;>exact spec_auto (obs:=mM ⟨a,b',c,d,_⟩++mM ⟨a2,b2,c2,d2,_⟩) (evs:=conjE ⟨a2,b2,c2,d2,true⟩++behE h (k.conj true)++[(sNormal ((h.beh k).mono (by decide)) hb h0).e]) (Ns:=[(2,13),(3,51)]) (m:=800) Tryz.func223 hmA (fun β=>by kernel_rfl) (by kernel_rfl) β w hh,by kernel_rfl⟩
def chE {p q r:Pt} (hp:PSz KC p) (hq:PSz KC q) (hr:PSz KC r):List (Ev Tryz.prog):=[(sBy p).e,(sBy r).e,(sAcross (hq.mono (by decide)) (hr.mono (by decide))).e,(sAcross (hq.mono (by decide)) (hp.mono (by decide))).e,
 mulE (byB_sz (p:=p) (by decide)) ((gacross_sz hq hr (by decide)).mono (by decide)),mulE ((byA_sz hp (by decide)).mono (by decide)) ((gacross_sz hq hr (by decide)).mono (by decide)),(sNeg (gmul (byA p) (gacross q r))).e,
 mulE (byB_sz (p:=r) (by decide)) ((gacross_sz hq hp (by decide)).mono (by decide)),mulE ((byA_sz hr (by decide)).mono (by decide)) ((gacross_sz hq hp (by decide)).mono (by decide)),(sNeg (gmul (byA r) (gacross q p))).e]
def sChart {p q r:Pt} (hp:PSz KC p) (hq:PSz KC q) (hr:PSz KC r) {b:Bool} (hb:gzero (mchart0 p q r).c=b) (h0:gzero (bif b then (mchart0 p q r).d else (mchart0 p q r).c)=false):Spec Tryz.prog :=
 Spec.auto Tryz.call222 [.one (.a (pL 0 p++pL 2 q++pL 4 r))] (pM p++pM q++pM r) (mV 6 (mnormB (mchart0 p q r) b)) (mT (mnormB (mchart0 p q r) b))
  (chE hp hq hr++[(sNormal ((chart0_sz hp hq hr).mono (by decide)) hb h0).e]) [(3,12),(4,16)] 800 Tryz.func222 hmA (by kernel_rfl) (fun β=>by kernel_rfl)
noncomputable def sToldP (p:Pt) (h:PSz KB p):Spec Tryz.prog :=
 ⟨199,Tryz.call199,[pV 0 p],pM p,.tup [.a (lsX (paC p)),.c (.b (.v (.int .i64 (paK p))))],[],fun β w hh=>by
  cases p
  · exact spec_auto (obs:=pM .inf) (evs:=[]) (Ns:=[]) (m:=400) Tryz.func199 hmA (fun β=>by kernel_rfl) (by kernel_rfl) β w hh
  · rename_i z
    exact spec_auto (obs:=pM (.fin z)) (evs:=[(sTold (z:=z) h).e]) (Ns:=[]) (m:=400) Tryz.func199 hmA (fun β=>by kernel_rfl) (by kernel_rfl) β w hh,by cases p<;>kernel_rfl⟩
def sendE (m:MQ) (h:MSz KE m):(p:Pt)→PSz KE p→List (Ev Tryz.prog)
 | .inf,_=>[]
 | .fin z,hp=>(bif m.t then [(sConj z).e] else [])++[mulE h.a (mcj_sz (t:=m.t) hp),(sAdd ((h.a.mul (mcj_sz (t:=m.t) hp)).mono (by decide)) (h.b.mono (by decide))).e,
   mulE h.c (mcj_sz (t:=m.t) hp),(sAdd ((h.c.mul (mcj_sz (t:=m.t) hp)).mono (by decide)) (h.d.mono (by decide))).e]
theorem nilpair {P:Program} {f:FuncId} {args:Array Value} {w:World} {β:Env} {m:Nat} {r r':Env→Value}
  (h:Calls P f args w fun e w'=>∃ xs:List Pl,freshS β w m xs∧e=.returned (r (extE β m xs))∧newHold w' [] xs∧Below w.heap.size w w') (hr:r' (extE β m [nilPl,nilPl])=r (extE β m [])) :
  Calls P f args w fun e w'=>∃ xs:List Pl,freshS β w m xs∧e=.returned (r' (extE β m xs))∧newHold w' (gM g0) xs∧Below w.heap.size w w' :=
 h.mono fun e w' ⟨xs,h1,he,h2,h3⟩=>by
  match xs,h1,he,h2 with
  | [],h1,he,h2 =>
   have hn:OR0 0 w' nilPl:=nil_or (by decide) w'
   refine ⟨[nilPl,nilPl],fun x hx k hk=>?_,by rw [he,hr],⟨hn,hn,trivial⟩,h3⟩
   simp only [List.mem_cons,List.not_mem_nil,or_false] at hx
   rcases hx with rfl | rfl<;>exact hk.elim
def sSend {m:MQ} {p:Pt} (h:MSz KE m) (hp:PSz KE p) {b:Bool} (hb:gzero (msD m p)=b):Spec Tryz.prog :=
 ⟨200,Tryz.call200,[mV 0 m,pV 8 p],mM m++pM p,pV 10 (msend m p b),pM (msend m p b),fun β w hh=>by
  obtain ⟨a,b',c,d,t⟩:=m
  cases b
  · rcases p with _ | z
    · cases t<;>exact spec_auto (obs:=mM ⟨a,b',c,d,_⟩++pM .inf) (evs:=sendE _ h _ hp++[(sZero hb).e,(sDiv ((msN_sz h hp).mono (by decide)) ((msD_sz h hp).mono (by decide)) hb).e]) (Ns:=[(1,7+6000+1000000*14),(6,14)]) (m:=800) Tryz.func200 hmA (fun β=>by kernel_rfl) (by kernel_rfl) β w hh
    · cases t<;>exact spec_auto (obs:=mM ⟨a,b',c,d,_⟩++pM (.fin z)) (evs:=sendE _ h _ hp++[(sZero hb).e,(sDiv ((msN_sz h hp).mono (by decide)) ((msD_sz h hp).mono (by decide)) hb).e]) (Ns:=[(1,7+6000+1000000*14),(6,14)]) (m:=800) Tryz.func200 hmA (fun β=>by kernel_rfl) (by kernel_rfl) β w hh
  · rcases p with _ | z
    · cases t<;>exact nilpair (r:=(SV.one (.a [.b (.v (.bool true)),.b (.v (.pointer none)),.b (.v (.pointer none))])).den) (r':=(pV 10 .inf).den) (spec_auto (obs:=mM ⟨a,b',c,d,_⟩++pM .inf) (args:=[mV 0 ⟨a,b',c,d,_⟩,pV 8 .inf]) (res:=.one (.a [.b (.v (.bool true)),.b (.v (.pointer none)),.b (.v (.pointer none))])) (news:=[]) (evs:=sendE _ h _ hp++[(sZero hb).e]) (Ns:=[(1,7+6000+1000000*14),(6,14)]) (m:=800) Tryz.func200 hmA (fun β=>by kernel_rfl) (by kernel_rfl) β w hh) (by kernel_rfl)
    · cases t<;>exact nilpair (r:=(SV.one (.a [.b (.v (.bool true)),.b (.v (.pointer none)),.b (.v (.pointer none))])).den) (r':=(pV 10 .inf).den) (spec_auto (obs:=mM ⟨a,b',c,d,_⟩++pM (.fin z)) (args:=[mV 0 ⟨a,b',c,d,_⟩,pV 8 (.fin z)]) (res:=.one (.a [.b (.v (.bool true)),.b (.v (.pointer none)),.b (.v (.pointer none))])) (news:=[]) (evs:=sendE _ h _ hp++[(sZero hb).e]) (Ns:=[(1,7+6000+1000000*14),(6,14)]) (m:=800) Tryz.func200 hmA (fun β=>by kernel_rfl) (by kernel_rfl) β w hh) (by kernel_rfl),by cases p<;>cases b<;>kernel_rfl⟩
noncomputable def tE {z:GQ} (hz:GSz KB z) (r:Bool) (h:(gaK z != 0)=r):List (Ev Tryz.prog):=[(sTold hz).e,.eqv 43 (.bool (gaK z != 0)) (.bool r) (gaK_ne h)]
noncomputable def tN {z:GQ} (hz:GSz KB z) (h:¬ FitG z):List (Ev Tryz.prog):=tE hz true (gaK_not h)++[.eqv 45 (.int .i64 (gaK z)) (.int .i64 4) (by rw [(ga_not h).2])]
noncomputable def sToldM {m:MQ} (h:MSz KM m) {b:Bool} (hb:gzero m.c=b) (h0:gzero (bif b then m.d else m.c)=false):Spec Tryz.prog :=
 ⟨207,Tryz.call207,[mV 0 m],mM m,.tup [.a (lsX (maC (mnormB m b))),.c (.b (.v (.int .i64 (maK (mnormB m b)))))],[],fun β w hh=>by
  have hn:=(h.normB h0).mono (show dsz KM≤KB by decide)
  by_cases h1:FitG (mnormB m b).a
  · by_cases h2:FitG (mnormB m b).b
    · by_cases h3:FitG (mnormB m b).c
      · by_cases h4:FitG (mnormB m b).d
        · rw [(maC_yes ⟨h1,h2,h3,h4⟩).1,(maC_yes ⟨h1,h2,h3,h4⟩).2]
          exact spec_auto (obs:=mM m) (evs:=[(sNormal h hb h0).e]++tE hn.a false (gaK_fit h1)++tE hn.b false (gaK_fit h2)++tE hn.c false (gaK_fit h3)++tE hn.d false (gaK_fit h4)) (Ns:=[]) (m:=800) Tryz.func207 hmA (fun β=>by kernel_rfl) (by kernel_rfl) β w hh
        · have hN:¬ FitM (mnormB m b):=fun e=>h4 e.2.2.2
          rw [(maC_no hN).1,(maC_no hN).2]
          exact spec_auto (obs:=mM m) (evs:=[(sNormal h hb h0).e]++tE hn.a false (gaK_fit h1)++tE hn.b false (gaK_fit h2)++tE hn.c false (gaK_fit h3)++tN hn.d h4) (Ns:=[]) (m:=800) Tryz.func207 hmA (fun β=>by kernel_rfl) (by kernel_rfl) β w hh
      · have hN:¬ FitM (mnormB m b):=fun e=>h3 e.2.2.1
        rw [(maC_no hN).1,(maC_no hN).2]
        exact spec_auto (obs:=mM m) (evs:=[(sNormal h hb h0).e]++tE hn.a false (gaK_fit h1)++tE hn.b false (gaK_fit h2)++tN hn.c h3) (Ns:=[]) (m:=800) Tryz.func207 hmA (fun β=>by kernel_rfl) (by kernel_rfl) β w hh
    · have hN:¬ FitM (mnormB m b):=fun e=>h2 e.2.1
      rw [(maC_no hN).1,(maC_no hN).2]
      exact spec_auto (obs:=mM m) (evs:=[(sNormal h hb h0).e]++tE hn.a false (gaK_fit h1)++tN hn.b h2) (Ns:=[]) (m:=800) Tryz.func207 hmA (fun β=>by kernel_rfl) (by kernel_rfl) β w hh
  · have hN:¬ FitM (mnormB m b):=fun e=>h1 e.1
    rw [(maC_no hN).1,(maC_no hN).2]
    exact spec_auto (obs:=mM m) (evs:=[(sNormal h hb h0).e]++tN hn.a h1) (Ns:=[]) (m:=800) Tryz.func207 hmA (fun β=>by kernel_rfl) (by kernel_rfl) β w hh,by kernel_rfl⟩
def rL (x:R4):List Lf:=[.b (.v (.bool x.b)),.b (.v (.string x.s)),.b (.v (.bool x.c)),.b (.v (.string x.t))]
structure Fr where
 r:R4
 a:Fp
 e:fpC a=rL r
def sOfW (a b:Fr) {r:Bool} (hr:(a.a.B&&b.a.B)=r):Spec Tryz.prog :=
 ⟨239,Tryz.call239,[.one (.a (rL a.r++rL b.r))],[],.tup [nA 0,.c (.b (.v (.bool r)))],[anyT,anyT],fun β w hh=>by
  rw [← a.e,← b.e]
  refine (sOf_ok a.a b.a β w hh).mono fun e w' ⟨xs,h1,he,h2,h3⟩=>⟨xs,h1,by rw [he,hr]; rfl,?_,h3⟩
  obtain ⟨_,a,_⟩:=a
  obtain ⟨_,b,_⟩:=b
  cases a<;>cases b
  · match xs,h2 with
    | [p,q],h2=>exact ⟨an_of (pr_stable _) h2.1,an_of (pr_stable _) h2.2.1,trivial⟩
  · exact h2
  · exact h2
  · exact h2,by kernel_rfl⟩
def eqEv (t:TypeId) (xs ys:Array Value) (r:Bool) (hg:Tryz.prog.eqGuardType Tryz.prog.depth t=false) (h:∀ w,(Op.equalIn 10000 t (.agg xs) (.agg ys)).run Tryz.prog w=.ok r w):Ev Tryz.prog :=
 .dyn (fun o _ _=>match o.op with
  | .binOp .eql t' _ _ _=>Nat.beq t' t
  | .binOp .neq t' _ _ _=>Nat.beq t' t
  | _=>false) fun o _ _=>match o.op with
  | .binOp .eql _ a b u=>.gen (o.dst.getD 0) (.binOp .eql t a b u) [.agg xs,.agg ys] (.bool r) (fun ρ o w ho hx=>by
    simp only [Op.operands,List.map_cons,List.map_nil,List.cons.injEq] at hx
    exact exec_eql hg (h w) a b ρ o ho hx.1 hx.2.1)
  | .binOp .neq _ a b u=>.gen (o.dst.getD 0) (.binOp .neq t a b u) [.agg xs,.agg ys] (.bool (!r)) (fun ρ o w ho hx=>by
    simp only [Op.operands,List.map_cons,List.map_nil,List.cons.injEq] at hx
    exact exec_neq hg (h w) a b ρ o ho hx.1 hx.2.1)
  | _=>.eqv 0 undef undef rfl
def eqEvP (i i':Bool) (x y x' y':R4) (r:Bool) (h:((i==i')&&((x.eq x'&&(y.eq y'&&true))&&true))=r):Ev Tryz.prog :=
 eqEv 39 #[.bool i,.bool x.b,.string x.s,.bool x.c,.string x.t,.bool y.b,.string y.s,.bool y.c,.string y.t] #[.bool i',.bool x'.b,.string x'.s,.bool x'.c,.string x'.t,.bool y'.b,.string y'.s,.bool y'.c,.string y'.t] r (by kernel_rfl) (fun w=>by rw [← h]; exact eqP 9995 i i' x y x' y')
def eqEvW (b b':Bool) (s s':ByteArray) (r:Bool) (h:weq b b' s s'=r):Ev Tryz.prog :=
 eqEv 23 #[.bool b,.string s] #[.bool b',.string s'] r (by kernel_rfl) (fun w=>by rw [← h]; exact eqW 9998 ..)
def eqEvG (x y x' y':R4) (r:Bool) (h:(x.eq x'&&(y.eq y'&&true))=r):Ev Tryz.prog :=
 eqEv 37 #[.bool x.b,.string x.s,.bool x.c,.string x.t,.bool y.b,.string y.s,.bool y.c,.string y.t] #[.bool x'.b,.string x'.s,.bool x'.c,.string x'.t,.bool y'.b,.string y'.s,.bool y'.c,.string y'.t] r (by kernel_rfl) (fun w=>by rw [← h]; exact eqG 9996 ..)
def spI:Pp→Bool
 | .fin ..=>false
 | _=>true
def spT:Pp→List Thing
 | .fin a b=>ofT a b
 | _=>gM g0
def sSpot (p:Pp):Spec Tryz.prog :=
 ⟨150,Tryz.call150,[.one (.a (lsX p.C))],[],.tup [.a [.b (.v (.bool (spI p))),.b (.z 0 0),.b (.z 1 0)],.c (.b (.v (.bool p.B)))],spT p,fun β w hh=>by
  rcases p with _ | ⟨a,b⟩ | ⟨x,y,h⟩
  · exact nilpair (r:=(SV.tup [.a [.b (.v (.bool true)),.b (.v (.pointer none)),.b (.v (.pointer none))],.c (.b (.v (.bool true)))]).den) (r':=(SV.tup [.a [.b (.v (.bool true)),.b (.z 0 0),.b (.z 1 0)],.c (.b (.v (.bool true)))]).den) (spec_auto (args:=[.one (.a (lsX Pp.inf.C))]) (obs:=[]) (res:=.tup [.a [.b (.v (.bool true)),.b (.v (.pointer none)),.b (.v (.pointer none))],.c (.b (.v (.bool true)))]) (news:=[]) (evs:=[]) (Ns:=[(2,2004005)]) (m:=400) Tryz.func150 hmA (fun β=>by kernel_rfl) (by kernel_rfl) β w hh) (by kernel_rfl)
  · cases a with
    | ok x hx=>cases b with
     | ok y hy=>exact spec_auto (obs:=[]) (evs:=[(sOf (.ok x hx) (.ok y hy)).e]) (Ns:=[(2,2004005)]) (m:=400) Tryz.func150 hmA (fun β=>by kernel_rfl) (by kernel_rfl) β w hh
     | no b2 c2 s2 t2 h2 u2 v2=>exact spec_auto (obs:=[]) (evs:=[(sOf (.ok x hx) (.no b2 c2 s2 t2 h2 u2 v2)).e]) (Ns:=[(2,2004005)]) (m:=400) Tryz.func150 hmA (fun β=>by kernel_rfl) (by kernel_rfl) β w hh
    | no b1 c1 s1 t1 h1 u1 v1=>cases b with
     | ok y hy=>exact spec_auto (obs:=[]) (evs:=[(sOf (.no b1 c1 s1 t1 h1 u1 v1) (.ok y hy)).e]) (Ns:=[(2,2004005)]) (m:=400) Tryz.func150 hmA (fun β=>by kernel_rfl) (by kernel_rfl) β w hh
     | no b2 c2 s2 t2 h2 u2 v2=>exact spec_auto (obs:=[]) (evs:=[(sOf (.no b1 c1 s1 t1 h1 u1 v1) (.no b2 c2 s2 t2 h2 u2 v2)).e]) (Ns:=[(2,2004005)]) (m:=400) Tryz.func150 hmA (fun β=>by kernel_rfl) (by kernel_rfl) β w hh
  · exact nilpair (r:=(SV.tup [.a [.b (.v (.bool true)),.b (.v (.pointer none)),.b (.v (.pointer none))],.c (.b (.v (.bool false)))]).den) (r':=(SV.tup [.a [.b (.v (.bool true)),.b (.z 0 0),.b (.z 1 0)],.c (.b (.v (.bool false)))]).den) (spec_auto (args:=[.one (.a (lsX (Pp.odd x y h).C))]) (obs:=[]) (res:=.tup [.a [.b (.v (.bool true)),.b (.v (.pointer none)),.b (.v (.pointer none))],.c (.b (.v (.bool false)))]) (news:=[]) (evs:=[eqEvP true true x y r40 r40 false (odd_ne h)]) (Ns:=[(2,2004005)]) (m:=400) Tryz.func150 hmA (fun β=>by kernel_rfl) (by kernel_rfl) β w hh) (by kernel_rfl),by
  rcases p with _ | ⟨_ | _,_ | _⟩ | _<;>kernel_rfl⟩
theorem fitG_sz {z:GQ} (h:FitG z):GSz 1024 z:=⟨h.1.sz,h.2.sz⟩
theorem fitM_sz {m:MQ} (h:FitM m):MSz 1024 m:=⟨fitG_sz h.1,fitG_sz h.2.1,fitG_sz h.2.2.1,fitG_sz h.2.2.2⟩
def mCl (m:MQ):List Lf:=lsX (gC m.a)++lsX (gC m.b)++lsX (gC m.c)++lsX (gC m.d)++[.b (.v (.bool m.t))]
def ofE {z:GQ} (h:FitG z):Ev Tryz.prog:=(sOf (.ok z.re h.1) (.ok z.im h.2)).e
def of4E {m:MQ} (h:FitM m):List (Ev Tryz.prog):=[ofE h.1,ofE h.2.1,ofE h.2.2.1,ofE h.2.2.2]
def mayR (r1 r2 r3:Bool):Bool:=bif r1 then true else bif r2 then r3 else false
def sOpenM {m:MQ} (h:FitM m) {r1 r2 r3:Bool} (hd:gzero (mdet m)=false) (h1:gzero (gsub m.c (gint 1 0))=r1) (h2:gzero m.c=r2) (h3:gzero (gsub m.d (gint 1 0))=r3):Spec Tryz.prog :=
 ⟨196,Tryz.call196,[.one (.a (mCl m))],[],.tup [mA 0 m,.c (.b (.v (.bool (mayR r1 r2 r3))))],mT m,fun β w hh=>by
  have k1:GSz KE (gint 1 0):=(GSz.int (by decide) (by decide)).mono (by decide)
  cases r1
  · cases r2
    · exact spec_auto (obs:=[]) (evs:=of4E h++[(sDet ((fitM_sz h).mono (by decide))).e,(sZero hd).e,(sInt 1 0 (by decide) (by decide)).e,(sSame ((fitM_sz h).c.mono (by decide)) k1 h1).e,(sZero h2).e]) (Ns:=[(12,2016017)]) (m:=1200) Tryz.func196 hmA (fun β=>by kernel_rfl) (by kernel_rfl) β w hh
    · exact spec_auto (obs:=[]) (evs:=of4E h++[(sDet ((fitM_sz h).mono (by decide))).e,(sZero hd).e,(sInt 1 0 (by decide) (by decide)).e,(sSame ((fitM_sz h).c.mono (by decide)) k1 h1).e,(sZero h2).e,(sSame ((fitM_sz h).d.mono (by decide)) k1 h3).e]) (Ns:=[(12,2016017)]) (m:=1200) Tryz.func196 hmA (fun β=>by kernel_rfl) (by kernel_rfl) β w hh
  · exact spec_auto (obs:=[]) (evs:=of4E h++[(sDet ((fitM_sz h).mono (by decide))).e,(sZero hd).e,(sInt 1 0 (by decide) (by decide)).e,(sSame ((fitM_sz h).c.mono (by decide)) k1 h1).e]) (Ns:=[(12,2016017)]) (m:=1200) Tryz.func196 hmA (fun β=>by kernel_rfl) (by kernel_rfl) β w hh,by kernel_rfl⟩
end Go.Proofs.YtdiemgedlfnlmaaGreat.Y
end
section
namespace Go.Proofs.YtdiemgedlfnlmaaGreat
open Go.Proofs.YtdiemgedlfnlmaaGreat.Y
open Go Go.RowKit
set_option maxRecDepth 100000
abbrev svG (z:GQ):SV:=.one (.a (gC z))
def sR4Int (n m:Int) (hn : -9223372036854775808≤n∧n≤9223372036854775807:=by decide) (hm : -9223372036854775808≤m∧m≤9223372036854775807:=by decide):Y.Spec Tryz.prog :=
 Y.Spec.auto Tryz.call49 [.one (.c (.b (.v (.int .i64 n)))),.one (.c (.b (.v (.int .i64 m))))] [] (svG (gint n m)) [] [(sR3Int n hn).e,(sR3Int m hm).e] [] 400 Tryz.func49 hmA (by kernel_rfl) (fun β=>by kernel_rfl)
def Fp.raw:Fp→R4
 | .ok x _=>⟨decide (x.num<0),mag x.num.natAbs,false,mag x.den⟩
 | .no b c s t _ _ _=>⟨b,s,c,t⟩
def Pp.rI:Pp→Bool
 | .fin ..=>false
 | _=>true
def Pp.rX:Pp→R4
 | .inf=>r40
 | .fin a _=>a.raw
 | .odd x _ _=>x
def Pp.rY:Pp→R4
 | .inf=>r40
 | .fin _ b=>b.raw
 | .odd _ y _=>y
def rawC (i:Bool) (x y:R4):List Lf:=.b (.v (.bool i))::(x.L++y.L)
def Y.Spec.as {P:Program} (S:Y.Spec P) (args:List SV) (res:SV) (ha:S.args=args) (hr:S.res=res):Y.Spec P :=
 ⟨S.f,S.en,args,S.obs,res,S.news,fun β w hh=>by subst ha; subst hr; exact S.ok β w hh,by subst ha; subst hr; exact S.closed⟩
def fR (x:Rat):R4:=⟨decide (x.num<0),mag x.num.natAbs,false,mag x.den⟩
def Pt.i:Pt→Bool
 | .inf=>true
 | .fin _=>false
def Pt.x:Pt→R4
 | .inf=>r40
 | .fin z=>fR z.re
def Pt.y:Pt→R4
 | .inf=>r40
 | .fin z=>fR z.im
abbrev svR (i:Bool) (x y:R4):SV:=.one (.a (rawC i x y))
abbrev svP (p:Pt):SV:=svR p.i p.x p.y
def FitP:Pt→Prop
 | .inf=>True
 | .fin z=>FitG z
theorem FitP.sz {p:Pt} (h:FitP p):PSz 1024 p:=by
 cases p
 · trivial
 · exact ⟨h.1.sz,h.2.sz⟩
structure Rw where
 i:Bool
 x:R4
 y:R4
def Pt.w (p:Pt):Rw:=⟨p.i,p.x,p.y⟩
def Pp.w (p:Pp):Rw:=⟨p.rI,p.rX,p.rY⟩
theorem fR_inj {x y:Rat} (h:fR x=fR y):x=y:=by
 injection h with h1 h2 h3 h4
 have hn:x.num.natAbs=y.num.natAbs:=mag_inj h2
 have hd:x.den=y.den:=mag_inj h4
 have hb:(x.num<0)=(y.num<0):=by simpa using h1
 refine Rat.ext ?_ hd
 by_cases h0:x.num<0
 · have:y.num<0:=by rw [← hb]; exact h0
   omega
 · have:¬ y.num<0:=by rw [← hb]; exact h0
   omega
theorem Pt.w_inj {p q:Pt} (h:p.w=q.w):p=q:=by
 cases p<;>cases q
 · rfl
 · injection h with h1; cases h1
 · injection h with h1; cases h1
 · rename_i z w
   injection h with _ h2 h3
   exact congrArg Pt.fin (GQ.ext2 (fR_inj h2) (fR_inj h3))
def rwB (i i':Bool) (x y x' y':R4):Bool:=(i==i')&&((x.eq x'&&(y.eq y'&&true))&&true)
theorem rwB_iff {i i':Bool} {x y x' y':R4}:rwB i i' x y x' y'=true↔i=i'∧x=x'∧y=y':=by
 unfold rwB
 simp only [Bool.and_true,Bool.and_eq_true,R4.eq_iff,beq_iff_eq]
def ptB (p q:Pt):Bool:=rwB p.i q.i p.x p.y q.x q.y
theorem ptB_iff {p q:Pt}:ptB p q=true↔p=q:=by
 unfold ptB
 rw [rwB_iff]
 constructor
 · rintro ⟨h1,h2,h3⟩
   exact Pt.w_inj (by unfold Pt.w; rw [h1,h2,h3])
 · rintro rfl; exact ⟨rfl,rfl,rfl⟩
open Classical in
noncomputable def paI (p:Pt):Bool:=if FitP p then p.i else false
open Classical in
noncomputable def paX (p:Pt):R4:=if FitP p then p.x else r40
open Classical in
noncomputable def paY (p:Pt):R4:=if FitP p then p.y else r40
theorem pa_fit {p:Pt} (h:FitP p):paI p=p.i∧paX p=p.x∧paY p=p.y:=⟨if_pos h,if_pos h,if_pos h⟩
theorem pa_not {p:Pt} (h:¬ FitP p):paI p=false∧paX p=r40∧paY p=r40:=⟨if_neg h,if_neg h,if_neg h⟩
theorem paK_fit {p:Pt} (h:FitP p):paK p=0:=by
 cases p
 · rfl
 · exact (ga_fit h).2
theorem paC_raw (p:Pt):paC p=rawC (paI p) (paX p) (paY p):=by
 by_cases h:FitP p
 · rw [(pa_fit h).1,(pa_fit h).2.1,(pa_fit h).2.2]
   cases p
   · rfl
   · show _::gaC _=_
     rw [(ga_fit h).1]; rfl
 · rw [(pa_not h).1,(pa_not h).2.1,(pa_not h).2.2]
   cases p
   · exact absurd trivial h
   · show _::gaC _=_
     rw [(ga_not h).1]; rfl
def mC (m:MQ):List Lf:=gC m.a++gC m.b++gC m.c++gC m.d++[.b (.v (.bool m.t))]
theorem gz_true {z:GQ}:gzero z=true↔z=g0:=by
 rw [gzero_iff]
 exact ⟨fun h=>GQ.ext2 h.1 h.2,fun h=>by rw [h]; exact ⟨rfl,rfl⟩⟩
theorem gz_false {z:GQ}:gzero z=false↔z≠g0:=by
 cases h:gzero z with
 | true=>exact ⟨fun e=>Bool.noConfusion e,fun e=>absurd (gz_true.1 h) e⟩
 | false=>exact ⟨fun _ e=>by rw [gz_true.2 e] at h; exact Bool.noConfusion h,fun _=>rfl⟩
theorem gnorm_mul (z w:GQ):gnorm (gmul z w)=gnorm z*gnorm w:=by
 simp only [gnorm,gmul]; grind
theorem gnorm_zero {z:GQ} (h:gnorm z=0):z=g0:=by
 cases h1:gzero z with
 | true=>exact gz_true.1 h1
 | false=>exact absurd h (gnorm_ne h1)
theorem gmul_zero {z w:GQ} (h:gmul z w=g0):z=g0∨w=g0:=by
 have h1:gnorm z*gnorm w=0:=by rw [← gnorm_mul,h]; simp only [gnorm,g0]; grind
 rcases Rat.mul_eq_zero.1 h1 with h | h
 · exact .inl (gnorm_zero h)
 · exact .inr (gnorm_zero h)
theorem gmul_ne {z w:GQ} (h:z≠g0) (k:w≠g0):gmul z w≠g0:=fun e=>(gmul_zero e).elim h k
theorem gnorm_inv {w:GQ} (h:w≠g0):gnorm w*(gnorm w)⁻¹=1:=Rat.mul_inv_cancel _ (gnorm_ne (gz_false.2 h))
theorem gdiv_mul {z w:GQ} (h:w≠g0):gmul (gdiv z w) w=z:=by
 have hn:=gnorm_inv h
 unfold gdiv
 generalize hi:(gnorm w)⁻¹=i at hn
 unfold gnorm at hn
 refine GQ.ext2 ?_ ?_
 · simp only [gmul,gscale,gconj]; grind
 · simp only [gmul,gscale,gconj]; grind
theorem gmul_cancel {z w u:GQ} (h:u≠g0) (e:gmul z u=gmul w u):z=w:=by
 have h1:gmul (gsub z w) u=g0:=by
  have e1:=congrArg GQ.re e
  have e2:=congrArg GQ.im e
  simp only [gmul] at e1 e2
  refine GQ.ext2 ?_ ?_
  · simp only [gmul,gsub,g0]; grind
  · simp only [gmul,gsub,g0]; grind
 rcases gmul_zero h1 with k | k
 · have e1:=congrArg GQ.re k
   have e2:=congrArg GQ.im k
   simp only [gsub,g0] at e1 e2
   exact GQ.ext2 (by grind) (by grind)
 · exact absurd k h
theorem gdiv_eq_iff {z w u:GQ} (h:w≠g0):gdiv z w=u↔z=gmul u w:=by
 constructor
 · intro e; rw [← e,gdiv_mul h]
 · intro e; exact gmul_cancel h (by rw [gdiv_mul h,e])
theorem gneg_ne {z:GQ} (h:z≠g0):gneg z≠g0:=fun e=>h (by
 have e1:=congrArg GQ.re e
 have e2:=congrArg GQ.im e
 simp only [gneg,g0] at e1 e2
 exact GQ.ext2 (by show z.re=0; grind) (by show z.im=0; grind))
def Reg (m:MQ):Prop:=mdet m≠g0
theorem Reg.by_ {m:MQ} (h:Reg m) {b:Bool} (hb:gzero m.c=b):(bif b then m.d else m.c)≠g0:=by
 cases b
 · exact gz_false.1 hb
 · intro e
   refine h ?_
   have hc:=gz_true.1 hb
   unfold mdet
   rw [hc,show m.d=g0 from e]
   refine GQ.ext2 ?_ ?_<;>(simp only [gsub,gmul,g0]; grind)
theorem Reg.by0 {m:MQ} (h:Reg m) {b:Bool} (hb:gzero m.c=b):gzero (bif b then m.d else m.c)=false:=gz_false.2 (h.by_ hb)
theorem det_norm {m:MQ} {b:Bool} {u:GQ} (hu:(bif b then m.d else m.c)=u) (h:u≠g0):gmul (gmul (mdet (mnormB m b)) u) u=mdet m:=by
 unfold mnormB
 rw [hu]
 have ha:=gdiv_mul (z:=m.a) h
 have hb:=gdiv_mul (z:=m.b) h
 have hc:=gdiv_mul (z:=m.c) h
 have hd:=gdiv_mul (z:=m.d) h
 unfold mdet
 show gmul (gmul (gsub (gmul (gdiv m.a u) (gdiv m.d u)) (gmul (gdiv m.b u) (gdiv m.c u))) u) u=_
 rw [← ha,← hb,← hc,← hd]
 rw [ha,hb,hc,hd]
 generalize gdiv m.a u=a' at *
 generalize gdiv m.b u=b' at *
 generalize gdiv m.c u=c' at *
 generalize gdiv m.d u=d' at *
 rw [← ha,← hb,← hc,← hd]
 refine GQ.ext2 ?_ ?_<;>(simp only [gsub,gmul]; grind)
theorem Reg.norm {m:MQ} (h:Reg m) {b:Bool} (hu:(bif b then m.d else m.c)≠g0):Reg (mnormB m b):=fun e=>h (by
 rw [← det_norm rfl hu,e]
 refine GQ.ext2 ?_ ?_<;>(simp only [gmul,g0]; grind))
theorem Reg.undo0 {m:MQ} (h:Reg m):Reg (mundo0 m):=fun e=>h (by
 have e1:=congrArg GQ.re e
 have e2:=congrArg GQ.im e
 simp only [mdet,mundo0,gsub,gmul,gneg,g0] at e1 e2
 refine GQ.ext2 ?_ ?_<;>(simp only [mdet,gsub,gmul,g0]; grind))
theorem Reg.conj {m:MQ} (h:Reg m) (t:Bool):Reg (mconj m t):=by
 cases t
 · exact h
 · intro e
   refine h ?_
   have e1:=congrArg GQ.re e
   have e2:=congrArg GQ.im e
   simp only [mdet,mconj,cond_true,gsub,gmul,gconj,g0] at e1 e2
   refine GQ.ext2 ?_ ?_<;>(simp only [mdet,gsub,gmul,g0]; grind)
theorem det_beh (m n:MQ):mdet (mbeh m n)=gmul (mdet m) (mdet (mconj n m.t)):=by
 unfold mbeh mdet
 generalize mconj n m.t=n'
 refine GQ.ext2 ?_ ?_<;>(simp only [gsub,gadd,gmul]; grind)
theorem Reg.beh {m n:MQ} (h:Reg m) (k:Reg n):Reg (mbeh m n):=by
 unfold Reg
 rw [det_beh]
 exact gmul_ne h (k.conj _)
theorem gint00:gint 0 0=g0:=rfl
theorem gint10:gint 1 0=⟨1,0⟩:=rfl
theorem across_ne {p q:Pt} (h:p≠q):gacross p q≠g0:=by
 intro e
 have e1:=congrArg GQ.re e
 have e2:=congrArg GQ.im e
 cases p<;>cases q<;>simp only [gacross,byA,byB,gint00,gint10,gsub,gmul,g0] at e1 e2
 · exact h rfl
 · exact absurd e1 (by grind)
 · exact absurd e1 (by grind)
 · rename_i z w
   refine h (congrArg Pt.fin (GQ.ext2 ?_ ?_))
   · grind
   · grind
theorem Reg.chart {p q r:Pt} (h1:p≠q) (h2:q≠r) (h3:p≠r):Reg (mchart0 p q r):=by
 have k1:=across_ne h1
 have k2:=across_ne h2
 have k3:=across_ne h3
 unfold Reg
 have:mdet (mchart0 p q r)=gmul (gmul (gacross q r) (gneg (gacross p q))) (gacross p r):=by
  unfold mdet mchart0 gacross
  generalize byA p=a
  generalize byB p=b
  generalize byA q=c
  generalize byB q=d
  generalize byA r=e
  generalize byB r=f
  refine GQ.ext2 ?_ ?_<;>(simp only [gsub,gmul,gneg]; grind)
 rw [this]
 exact gmul_ne (gmul_ne k2 (gneg_ne k1)) k3
structure BSpec (P:Program) where
 f:FuncId
 en:Enters P f
 args:List SV
 cs:List Lf
 t:TypeId
 r:Value
 ok:∀ β w,(Ob.box cs t).holds β w (β 0)→Calls P f (args.map (SV.den β)).toArray w fun e w'=>e=.returned r∧Below w.heap.size w w'
 cl:(cs.all (Lf.of fun _=>false)&&args.all (SV.of fun k=>Nat.beq k 0))=true
 hr:∀ β,(tag r).den β=r
def bkOf:List SV→Nat
 | []=>0
 | .one (.c (.b (.s k _ _ _)))::_=>k
 | _::r=>bkOf r
theorem cells_closed {β β':Env} {cs:List Lf} (h:cs.all (Lf.of fun _=>false)=true):cs.map (Lf.den β)=cs.map (Lf.den β') :=
 List.map_congr_left fun x hx=>Lf.den_congr (q:=fun _=>false) (fun k hk=>by cases hk) x (List.all_eq_true.1 h x hx)
def BSpec.e {P:Program} (S:BSpec P):Ev P:=.dyn (fun o _ _=>isCallB o) fun _ xs ob=>lit (bkOf xs) fun i =>
 .call S.f S.en (fun β=>(S.args.map (SV.den fun _=>β i)).toArray) [(i,.box S.cs S.t)] 0 (tag S.r) [] (fun β w h=>of_pure0 (by
  have hc:=S.cl
  rw [Bool.and_eq_true] at hc
  refine S.ok (fun _=>β i) w ?_
  have h1:(β i).one∧w.heap[(β i).b]?=some (.cells (S.cs.map (Lf.den β)).toArray S.t (0,0)):=h _ (List.mem_singleton.2 rfl)
  show (β i).one∧w.heap[(β i).b]?=some (.cells (S.cs.map (Lf.den fun _=>β i)).toArray S.t (0,0))
  rw [cells_closed (β':=β) hc.1]
  exact h1) S.hr)
theorem bspec_ok {P:Program} {f:FuncId} {fn:Func} {args:List SV} {cs:List Lf} {t:TypeId} {r:Value} (evs:List (Ev P)) (Ns:List (Nat × Nat)) (m:Nat) (hf:P.funcs[f]?=some fn) (hm:P.follows .mixedOrders=true)
  (h:∀ β,(allS P fn args [.box cs t] evs Ns m (tag r) [] β).map Prod.fst=(allS P fn args [.box cs t] evs Ns m (tag r) [] β).map Prod.snd)
  (hB:(args.all (SV.of fun k=>Nat.blt k 1)&&[Ob.box cs t].all fun x=>x.of (fun k=>Nat.blt k 1)&&x.own)=true) (hr:∀ β,(tag r).den β=r) (β:Env) (w:World) (hh:(Ob.box cs t).holds β w (β 0)) :
  Calls P f (args.map (SV.den β)).toArray w fun e w'=>e=.returned r∧Below w.heap.size w w':=by
 rw [Bool.and_eq_true] at hB
 refine (sx (P:=P) args [.box cs t] evs Ns m (tag r) [] hf hm (fun β=>ok_of_maps (h β)) hB.1 hB.2 β w (fun k o ho=>?_)).mono ?_
 · cases k with
   | zero=>simp only [List.getElem?_cons_zero] at ho; obtain rfl:=Option.some.inj ho; exact hh
   | succ k=>simp at ho
 · rintro e w' ⟨β',q,obj,e1,rfl,e2,e4,e5,g⟩
   exact ⟨by rw [hr],g.bel⟩
def Rw.C (r:Rw):List Lf:=rawC r.i r.x r.y
def minv0 (m:MQ):MQ:=mconj (mundo0 m) m.t
theorem minv0_sz {k:Nat} {m:MQ} (h:MSz k m):MSz k (minv0 m):=h.undo0.conj _
theorem maC_fit {m:MQ} (h:FitM m):maC m=mC m∧maK m=0:=by
 obtain ⟨h1,h2⟩:=maC_yes h
 refine ⟨?_,h2⟩
 rw [h1,(ga_fit h.1).1,(ga_fit h.2.1).1,(ga_fit h.2.2.1).1,(ga_fit h.2.2.2).1]
 rfl
abbrev KQ:Nat:=250
abbrev csz (k:Nat):Nat:=k+(k+k+(k+k)+1+(k+k+(k+k)+1)+1)+(k+(k+k+(k+k)+1+(k+k+(k+k)+1)+1))+1
theorem mchart0_sz {k:Nat} {p q r:Pt} (hp:PSz k p) (hq:PSz k q) (hr:PSz k r) (hk:1≤k):MSz (csz k) (mchart0 p q r) :=
 ⟨(byB_sz hk).mul (gacross_sz hq hr hk),((byA_sz hp hk).mul (gacross_sz hq hr hk)).neg,(byB_sz hk).mul (gacross_sz hq hp hk),((byA_sz hr hk).mul (gacross_sz hq hp hk)).neg⟩
theorem minv_reg {m:MQ} (h:Reg m):Reg (minv0 m):=h.undo0.conj _
theorem gq_one_ne:(⟨1,0⟩:GQ)≠g0:=fun e=>by have:=congrArg GQ.re e; exact absurd this (by show (1:Rat)≠0; decide)
theorem gq_div_self {u:GQ} (h:u≠g0):gdiv u u=⟨1,0⟩:=by
 rw [gdiv_eq_iff h]
 refine GQ.ext2 ?_ ?_<;>(simp only [gmul]; grind)
theorem gq_div_one (z:GQ):gdiv z ⟨1,0⟩=z:=by
 rw [gdiv_eq_iff gq_one_ne]
 refine GQ.ext2 ?_ ?_<;>(simp only [gmul]; grind)
theorem ptB_ne' {p q:Pt} (h:p≠q):ptB p q=false:=by
 cases k:ptB p q
 · rfl
 · exact absurd (ptB_iff.1 k) h
def mnorm (m:MQ):MQ:=mnormB m (gzero m.c)
def Nrm (m:MQ):Prop:=(bif gzero m.c then m.d else m.c)=⟨1,0⟩
theorem Nrm.id {m:MQ} (h:Nrm m):mnorm m=m:=by
 unfold Nrm at h
 unfold mnorm mnormB
 rw [h,gq_div_one,gq_div_one,gq_div_one,gq_div_one]
theorem Reg.nrm {m:MQ} (h:Reg m):Nrm (mnorm m):=by
 have h0:=h.by_ rfl
 unfold Nrm mnorm
 cases hc:gzero m.c with
 | false =>
  have hc':=gz_false.1 hc
  show (bif gzero (gdiv m.c m.c) then _ else gdiv m.c m.c)=_
  rw [gq_div_self hc',gz_false.2 gq_one_ne]
  rfl
 | true =>
  rw [hc] at h0
  have hd:m.d≠g0:=h0
  show (bif gzero (gdiv m.c m.d) then gdiv m.d m.d else _)=_
  have:gzero (gdiv m.c m.d)=true:=by
   rw [gz_true.1 hc,gz_true,gdiv_eq_iff hd]
   refine GQ.ext2 ?_ ?_<;>(simp only [gmul,g0]; grind)
  rw [this,gq_div_self hd]
  rfl
theorem Reg.mnorm {m:MQ} (h:Reg m):Reg (mnorm m):=h.norm (h.by_ rfl)
theorem Reg.b0 {m:MQ} (h:Reg m):gzero (bif gzero m.c then m.d else m.c)=false:=h.by0 rfl
theorem MSz.nrm {k:Nat} {m:MQ} (h:MSz k m) (hr:Reg m):MSz (dsz k) (Go.Proofs.YtdiemgedlfnlmaaGreat.mnorm m):=h.normB hr.b0
def mcmp (m n:MQ):MQ:=mnorm (mbeh m n)
def minv (m:MQ):MQ:=mnorm (minv0 m)
def mcha (p q r:Pt):MQ:=mnorm (mchart0 p q r)
def mid (t:Bool):MQ:=⟨gint 1 0,g0,g0,gint 1 0,t⟩
theorem Reg.cmp {m n:MQ} (h:Reg m) (k:Reg n):Reg (mcmp m n):=(h.beh k).mnorm
theorem Reg.id (t:Bool):Reg (mid t):=fun e=>by
 have:=congrArg GQ.re e
 simp only [mdet,mid,gint10,gsub,gmul,g0] at this
 exact absurd this (by grind)
theorem Nrm.cmp {m n:MQ} (h:Reg m) (k:Reg n):Nrm (mcmp m n):=(h.beh k).nrm
theorem Nrm.inv {m:MQ} (h:Reg m):Nrm (minv m):=(minv_reg h).nrm
def mof (p q r s u v:Pt) (t:Bool):MQ:=mcmp (minv (mcha s u v)) (mcmp (mid t) (mcha p q r))
end Go.Proofs.YtdiemgedlfnlmaaGreat
end
section
namespace Go.Proofs.YtdiemgedlfnlmaaGreat.Y
open Go Go.RowKit
set_option maxRecDepth 100000
def sSpotP (p:Pt) (h:FitP p):Spec Tryz.prog :=
 ⟨150,Tryz.call150,[.one (.a (lsX p.w.C))],[],.tup [.a (pL 0 p),.c (.b (.v (.bool true)))],pM p,fun β w hh=>by
  cases p with
  | inf=>exact (sSpot .inf).ok β w hh
  | fin z =>
   refine ((sSpot (.fin (.ok z.re h.1) (.ok z.im h.2))).ok β w hh).mono fun e w' ⟨xs,h1,he,h2,h3⟩=>⟨xs,h1,he,?_,h3⟩
   have h4:newHold w' [ratT z.re,ratT z.im] xs:=h2
   match xs,h4 with
   | [a,b],h4=>exact ⟨(ratT z.re).imp _ _ h4.1,(ratT z.im).imp _ _ h4.2.1,trivial⟩,by kernel_rfl⟩
def MayQ (q:MQ):Prop:=FitM q∧gzero (mdet q)=false∧(gzero (gsub q.c (gint 1 0))=true∨gzero q.c=true∧gzero (gsub q.d (gint 1 0))=true)
def sOpenYes {q:MQ} (h:MayQ q):Spec Tryz.prog :=
 ⟨196,Tryz.call196,[.one (.a (mCl q))],[],.tup [mA 0 q,.c (.b (.v (.bool true)))],mT q,fun β w hh=>by
  obtain ⟨hf,hd,hr⟩:=h
  have hk:mayR (gzero (gsub q.c (gint 1 0))) (gzero q.c) (gzero (gsub q.d (gint 1 0)))=true:=by
   unfold mayR
   rcases hr with h | ⟨h,k⟩
   · rw [h]; rfl
   · rw [h,k]; cases gzero (gsub q.c (gint 1 0))<;>rfl
  refine ((sOpenM hf hd rfl rfl rfl).ok β w hh).mono fun e w' ⟨xs,h1,he,h2,h3⟩=>⟨xs,h1,?_,h2,h3⟩
  rw [he]
  show Ending.returned ((SV.tup [mA 0 q,.c (.b (.v (.bool (mayR (gzero (gsub q.c (gint 1 0))) (gzero q.c) (gzero (gsub q.d (gint 1 0)))))))]).den (extE β 0 xs))=_
  rw [hk]
  rfl,by kernel_rfl⟩
end Go.Proofs.YtdiemgedlfnlmaaGreat.Y
end
section
namespace Go.Proofs.YtdiemgedlfnlmaaGreat
open Go.Proofs.YtdiemgedlfnlmaaGreat.Y
open Go Go.RowKit
set_option maxRecDepth 100000
abbrev KT:Nat:=125
abbrev P6 (p q r s u v:Pt) (k:Pt→Prop):Prop:=k p∧k q∧k r∧k s∧k u∧k v
section
variable {p q r s u v:Pt} (z:P6 p q r s u v (PSz KT)) (t:Bool)
theorem mid_sz (t:Bool) {k:Nat} (hk:1≤k:=by decide):MSz k (mid t):=by
 have h1:GSz k (gint 1 0):=(GSz.int (by decide) (by decide)).mono hk
 have h0:GSz k g0:=g0_sz hk
 exact ⟨h1,h0,h0,h1⟩
theorem mcha_sz {k:Nat} (hp:PSz k p) (hq:PSz k q) (hr:PSz k r) (hk:1≤k) (h0:Reg (mchart0 p q r)):MSz (dsz (csz k)) (mcha p q r):=(mchart0_sz hp hq hr hk).nrm h0
theorem minv_sz {k:Nat} {m:MQ} (h:MSz k m) (h0:Reg (minv0 m)):MSz (dsz k) (minv m):=(minv0_sz h).nrm h0
theorem mcmp_sz {i j:Nat} {m n:MQ} (h:MSz i m) (k:MSz j n) (h0:Reg (mbeh m n)):MSz (dsz (bsz i j)) (mcmp m n):=(h.beh k).nrm h0
structure Six (p q r s u v:Pt):Prop where
 a:p≠q
 b:q≠r
 c:r≠p
 d:s≠u
 e:u≠v
 f:v≠s
theorem Six.r1 (h:Six p q r s u v):Reg (mchart0 p q r):=Reg.chart h.a h.b (Ne.symm h.c)
theorem Six.r2 (h:Six p q r s u v):Reg (mchart0 s u v):=Reg.chart h.d h.e (Ne.symm h.f)
theorem Six.r3 (h:Six p q r s u v) (t:Bool):Reg (mbeh (mid t) (mcha p q r)):=(Reg.id t).beh h.r1.mnorm
theorem Six.r4 (h:Six p q r s u v):Reg (minv0 (mcha s u v)):=minv_reg h.r2.mnorm
theorem Six.r5 (h:Six p q r s u v) (t:Bool):Reg (mbeh (minv (mcha s u v)) (mcmp (mid t) (mcha p q r))):=h.r4.mnorm.beh (h.r3 t).mnorm
end
end Go.Proofs.YtdiemgedlfnlmaaGreat
end
section
namespace Go.Proofs.YtdiemgedlfnlmaaGreat.Y
open Go Go.RowKit
set_option maxRecDepth 100000
def eqEvPt {p q:Pt} {r:Bool} (h:ptB p q=r):Ev Tryz.prog:=eqEvP p.i q.i p.x p.y q.x q.y r h
def mob0:SC:=.a (lsX g0C++lsX g0C++lsX g0C++lsX g0C++[.b (.v (.bool false))])
def pt0:SC:=.a (.b (.v (.bool false))::lsX g0C)
theorem MayQ.reg {q:MQ} (h:MayQ q):Reg q:=gz_false.1 h.2.1
theorem sub_one {z:GQ} (h:gzero (gsub z (gint 1 0))=true):z=⟨1,0⟩:=by
 have:=gz_true.1 h
 have e1:=congrArg GQ.re this
 have e2:=congrArg GQ.im this
 simp only [gint10,gsub,g0] at e1 e2
 exact GQ.ext2 (by grind) (by grind)
theorem MayQ.nrm {q:MQ} (h:MayQ q):Nrm q:=by
 rcases h.2.2 with h1 | ⟨h1,h2⟩
 · unfold Nrm
   rw [sub_one h1,gz_false.2 gq_one_ne]
   rfl
 · unfold Nrm
   rw [h1,sub_one h2]
   rfl
def sBehR {m n:MQ} (h:MSz KE m) (k:MSz KE n) (h0:Reg (mbeh m n)):Spec Tryz.prog:=sBehind h k (b:=gzero (mbeh m n).c) rfl h0.b0
def sUndoR {m:MQ} (h:MSz KM m) (h0:Reg m):Spec Tryz.prog:=sUndo h (b:=gzero (minv0 m).c) rfl (minv_reg h0).b0
def sChaR {p q r:Pt} (hp:PSz KC p) (hq:PSz KC q) (hr:PSz KC r) (h0:Reg (mchart0 p q r)):Spec Tryz.prog:=sChart hp hq hr (b:=gzero (mchart0 p q r).c) rfl h0.b0
theorem nrm_b0 {m:MQ} (h:Nrm m):gzero (bif gzero m.c then m.d else m.c)=false:=by
 unfold Nrm at h
 rw [h]
 exact gz_false.2 gq_one_ne
noncomputable def sToldN {m:MQ} (h:MSz KM m) (h0:Nrm m):Spec Tryz.prog :=
 ⟨207,Tryz.call207,[mV 0 m],mM m,.tup [.a (lsX (maC m)),.c (.b (.v (.int .i64 (maK m))))],[],fun β w hh=>by
  have k:=(sToldM h (b:=gzero m.c) rfl (nrm_b0 h0)).ok β w hh
  rw [show (sToldM h (b:=gzero m.c) rfl (nrm_b0 h0)).res=.tup [.a (lsX (maC m)),.c (.b (.v (.int .i64 (maK m))))] from congrArg (fun m=>SV.tup [.a (lsX (maC m)),.c (.b (.v (.int .i64 (maK m))))]) h0.id] at k
  exact k,by kernel_rfl⟩
theorem send_sz {q:MQ} (h:MSz 1024 q) {p:Pt} (hp:PSz 1024 p) {b:Bool} (hb:gzero (msD q p)=b):PSz KB (msend q p b):=by
 cases b
 · exact (GSz.div (msN_sz h hp) (msD_sz h hp) hb).mono (by decide)
 · trivial
noncomputable def sAt {q:MQ} (h:MayQ q) {p:Pt} (hp:FitP p) {b:Bool} (hb:gzero (msD q p)=b):Spec Tryz.prog :=
 Spec.auto Tryz.call61 [.one (.a (mCl q)),.one (.a (lsX p.w.C))] [] (.tup [.a (lsX (paC (msend q p b))),.c (.b (.v (.int .i64 (paK (msend q p b)))))]) []
  [(sOpenYes h).e,(sSpotP p hp).e,(sSend ((fitM_sz h.1).mono (by decide)) (hp.sz.mono (by decide)) hb).e,(sToldP (msend q p b) (send_sz (fitM_sz h.1) hp.sz hb)).e] [] 800 Tryz.func61 hmA (by cases b<;>kernel_rfl) (fun β=>by cases b<;>kernel_rfl)
noncomputable def sInv {q:MQ} (h:MayQ q):Spec Tryz.prog :=
 Spec.auto Tryz.call92 [.one (.a (mCl q))] [] (.tup [.a (lsX (maC (minv q))),.c (.b (.v (.int .i64 (maK (minv q)))))]) []
  [(sOpenYes h).e,(sUndoR ((fitM_sz h.1).mono (by decide)) h.reg).e,(sToldN ((minv_sz (fitM_sz h.1) (minv_reg h.reg)).mono (by decide)) (Nrm.inv h.reg)).e] [] 800 Tryz.func92 hmA (by kernel_rfl) (fun β=>by kernel_rfl)
theorem num_some:(Tryz.prog.info? 168).isSome=true:=by kernel_rfl
noncomputable def appN:AppT Tryz.prog :=
 ⟨316,168,(Tryz.prog.info? 168).get num_some,.agg #[.pointer none,.pointer none],2,16,Tryz.underlying316,(Option.some_get num_some).symm,by kernel_rfl,by kernel_rfl,by kernel_rfl,rfl,by decide,by decide⟩
structure Gp where
 a:Fr
 b:Fr
def Gp.C (g:Gp):SV:=.one (.a (rL g.a.r++rL g.b.r))
def Gp.B (g:Gp):Bool:=g.a.a.B&&g.b.a.B
noncomputable def gp1 (g:Gp) {r:Bool} (h:g.B=r):List (Ev Tryz.prog):=[(sOfW g.a g.b h).e,.app appN]
abbrev tB' (t:Bool):SV:=.one (.c (.b (.v (.bool t))))
abbrev nI' (k:Int):SC:=.c (.b (.v (.int .i64 k)))
noncomputable def mkE (a b c d:Gp) {r1 r2 r3 r4:Bool} (ha:a.B=r1) (hb:b.B=r2) (hc:c.B=r3) (hd:d.B=r4):List (Ev Tryz.prog) :=
 bif r1 then gp1 a ha++(bif r2 then gp1 b hb++(bif r3 then gp1 c hc++[(sOfW d.a d.b hd).e] else [(sOfW c.a c.b hc).e]) else [(sOfW b.a b.b hb).e]) else [(sOfW a.a a.b ha).e]
noncomputable def sMakeNo (a b c d:Gp) (t:Bool) {r1 r2 r3 r4:Bool} (ha:a.B=r1) (hb:b.B=r2) (hc:c.B=r3) (hd:d.B=r4) (h:(r1&&(r2&&(r3&&r4)))=false):Spec Tryz.prog :=
 ⟨209,Tryz.call209,[a.C,b.C,c.C,d.C,tB' t],[],.tup [mob0,nI' 2],[],fun β w hh=>by
  cases r1
  · exact spec_auto (evs:=mkE a b c d ha hb hc hd) (Ns:=[(10,15)]) (m:=1200) Tryz.func209 hmA (fun β=>by kernel_rfl) (by kernel_rfl) β w hh
  · cases r2
    · exact spec_auto (evs:=mkE a b c d ha hb hc hd) (Ns:=[(10,15)]) (m:=1200) Tryz.func209 hmA (fun β=>by kernel_rfl) (by kernel_rfl) β w hh
    · cases r3
      · exact spec_auto (evs:=mkE a b c d ha hb hc hd) (Ns:=[(10,15)]) (m:=1200) Tryz.func209 hmA (fun β=>by kernel_rfl) (by kernel_rfl) β w hh
      · cases r4
        · exact spec_auto (evs:=mkE a b c d ha hb hc hd) (Ns:=[(10,15)]) (m:=1200) Tryz.func209 hmA (fun β=>by kernel_rfl) (by kernel_rfl) β w hh
        · exact Bool.noConfusion h,by kernel_rfl⟩
abbrev gS (z:GQ):SV:=.one (.a (lsX (gC z)))
noncomputable def mkOkE {m:MQ} (h:FitM m):List (Ev Tryz.prog):=[ofE h.1,.app appN,ofE h.2.1,.app appN,ofE h.2.2.1,.app appN,ofE h.2.2.2,.app appN,(sDet ((fitM_sz h).mono (by decide))).e]
noncomputable def sToldR {m:MQ} (h:MSz KM m) (h0:Reg m):Spec Tryz.prog:=sToldM h (b:=gzero m.c) rfl h0.b0
noncomputable def sMake {m:MQ} (h:FitM m) (h0:gzero (mdet m)=false):Spec Tryz.prog :=
 Spec.auto Tryz.call209 [gS m.a,gS m.b,gS m.c,gS m.d,tB' m.t] [] (.tup [.a (lsX (maC (mnorm m))),nI' (maK (mnorm m))]) []
  (mkOkE h++[(sZero h0).e,(sToldR ((fitM_sz h).mono (by decide)) (gz_false.1 h0)).e]) [(10,15)] 1200 Tryz.func209 hmA (by kernel_rfl) (fun β=>by kernel_rfl)
end Go.Proofs.YtdiemgedlfnlmaaGreat.Y
end
section
namespace Go.Proofs.YtdiemgedlfnlmaaGreat
open Go.Proofs.YtdiemgedlfnlmaaGreat.Y
open Go Go.RowKit
set_option maxRecDepth 100000
abbrev svI (n:Int):SC:=.c (.b (.v (.int .i64 n)))
theorem sz_lit1 {n:Int} (h:n.natAbs<256):Fit (Rat.divInt n 1):=(Sz.small h).fit (by decide)
theorem fit_int {n m:Int} (h:n.natAbs<256) (k:m.natAbs<256):FitG (gint n m):=⟨sz_lit1 h,sz_lit1 k⟩
def mV (a a' b b' c c' d d':R4) (t:Bool):Array Value:=#[.bool a.b,.string a.s,.bool a.c,.string a.t,.bool a'.b,.string a'.s,.bool a'.c,.string a'.t,.bool b.b,.string b.s,.bool b.c,.string b.t,.bool b'.b,.string b'.s,.bool b'.c,.string b'.t,
 .bool c.b,.string c.s,.bool c.c,.string c.t,.bool c'.b,.string c'.s,.bool c'.c,.string c'.t,.bool d.b,.string d.s,.bool d.c,.string d.t,.bool d'.b,.string d'.s,.bool d'.c,.string d'.t,.bool t]
def gV (a a':R4):Array Value:=#[.bool a.b,.string a.s,.bool a.c,.string a.t,.bool a'.b,.string a'.s,.bool a'.c,.string a'.t]
def geq (x y x' y':R4):Bool:=x.eq x'&&(y.eq y'&&true)
theorem eqM {w:World} (n:Nat) (a a' b b' c c' d d':R4) (t:Bool) (p p' q q' r r' s s':R4) (u:Bool):(Op.equalIn (n+5) 74 (.agg (mV a a' b b' c c' d d' t)) (.agg (mV p p' q q' r r' s s' u))).run Tryz.prog w=.ok (geq a a' p p'&&(geq b b' q q'&&(geq c c' r r'&&(geq d d' s s'&&((t==u)&&true))))) w:=by
 unfold mV
 rw [run_equalIn_agg _ _ _ _ _ (by kernel_rfl) (by kernel_rfl)]
 refine run_eqF_cons (a:=.agg (gV a a')) (b:=.agg (gV p p')) (by kernel_rfl) (by kernel_rfl) (by kernel_rfl) (eqG n _ _ _ _) ?_
 refine run_eqF_cons (a:=.agg (gV b b')) (b:=.agg (gV q q')) (by kernel_rfl) (by kernel_rfl) (by kernel_rfl) (eqG n _ _ _ _) ?_
 refine run_eqF_cons (a:=.agg (gV c c')) (b:=.agg (gV r r')) (by kernel_rfl) (by kernel_rfl) (by kernel_rfl) (eqG n _ _ _ _) ?_
 refine run_eqF_cons (a:=.agg (gV d d')) (b:=.agg (gV s s')) (by kernel_rfl) (by kernel_rfl) (by kernel_rfl) (eqG n _ _ _ _) ?_
 refine run_eqF_cons (a:=.bool t) (b:=.bool u) (by kernel_rfl) (by kernel_rfl) (by kernel_rfl) (run_equalIn_bool' _ _ _ _ _ (by kernel_rfl)) ?_
 kernel_rfl
theorem geq_self (x y:R4):geq x y x y=true:=by
 unfold geq
 rw [R4.eq_iff.2 rfl,R4.eq_iff.2 rfl]; rfl
def eqEvM (a a' b b' c c' d d':R4) (t:Bool):Ev Tryz.prog :=
 eqEv 74 (mV a a' b b' c c' d d' t) (mV a a' b b' c c' d d' t) true (by kernel_rfl) (fun w=>by
  have h:=eqM (w:=w) 9995 a a' b b' c c' d d' t a a' b b' c c' d d' t
  rw [geq_self,geq_self,geq_self,geq_self,show (t==t)=true from beq_self_eq_true t] at h
  exact h)
def eqMC (m:MQ):Ev Tryz.prog:=eqEvM (fR m.a.re) (fR m.a.im) (fR m.b.re) (fR m.b.im) (fR m.c.re) (fR m.c.im) (fR m.d.re) (fR m.d.im) m.t
abbrev svB (b:Bool):SV:=.one (.c (.b (.v (.bool b))))
abbrev pI (n m:Int):Pt:=.fin (gint n m)
theorem pI_fit {n m:Int} (h:n.natAbs<256) (k:m.natAbs<256):FitP (pI n m):=fit_int h k
theorem pI_ne {n m n' m':Int} (h:¬ (n=n'∧m=m')):pI n m≠pI n' m':=fun e=>h (by
 injection e with e
 injection e with e1 e2
 have k1:=congrArg Rat.num e1
 have k2:=congrArg Rat.num e2
 rw [(divInt_one n).1,(divInt_one n').1] at k1
 rw [(divInt_one m).1,(divInt_one m').1] at k2
 exact ⟨k1,k2⟩)
theorem fit_small {z:GQ} (h1:z.re.num.natAbs<256) (h2:z.re.den<256) (h3:z.im.num.natAbs<256) (h4:z.im.den<256):FitP (.fin z) :=
 ⟨Sz.fit (k:=1) ⟨sz_small h1,sz_small (n:=(z.re.den:Int)) (by simpa using h2)⟩ (by decide),Sz.fit (k:=1) ⟨sz_small h3,sz_small (n:=(z.im.den:Int)) (by simpa using h4)⟩ (by decide)⟩
theorem gq_lit {z w:GQ} (h1:decide (z.re=w.re)=true) (h2:decide (z.im=w.im)=true):z=w:=GQ.ext2 (of_decide_eq_true h1) (of_decide_eq_true h2)
theorem mq_ext {m n:MQ} (h1:m.a=n.a) (h2:m.b=n.b) (h3:m.c=n.c) (h4:m.d=n.d) (h5:m.t=n.t):m=n:=by cases m; cases n; cases h1; cases h2; cases h3; cases h4; cases h5; rfl
end Go.Proofs.YtdiemgedlfnlmaaGreat
end
section
namespace Go.Proofs.YtdiemgedlfnlmaaGreat.Y
open Go Go.RowKit
set_option maxRecDepth 100000
theorem g00:gint 0 0=g0:=gq_lit (by kernel_rfl) (by kernel_rfl)
theorem g0_fit:FitG g0:=by rw [← g00]; exact fit_int (by decide) (by decide)
theorem mid_fit (t:Bool):FitM (mid t):=⟨fit_int (by decide) (by decide),g0_fit,g0_fit,fit_int (by decide) (by decide)⟩
theorem mid_nrm (t:Bool):Nrm (mid t):=by
 unfold Nrm mid
 rw [gz_true.2 rfl]
 exact gint10
noncomputable def sToldId:Spec Tryz.prog :=
 ⟨207,Tryz.call207,[mV 0 (mid false)],mM (mid false),.tup [.a (lsX (mC (mid false))),.c (.b (.v (.int .i64 0)))],[],fun β w hh=>by
  have k:=(sToldN (m:=mid false) ((fitM_sz (mid_fit false)).mono (by decide)) (mid_nrm false)).ok β w hh
  rw [show (sToldN (m:=mid false) ((fitM_sz (mid_fit false)).mono (by decide)) (mid_nrm false)).res=.tup [.a (lsX (mC (mid false))),.c (.b (.v (.int .i64 0)))] by
   show SV.tup [.a (lsX (maC (mid false))),.c (.b (.v (.int .i64 (maK (mid false)))))]=_
   rw [(maC_fit (mid_fit false)).1,(maC_fit (mid_fit false)).2]] at k
  exact k,by kernel_rfl⟩
noncomputable def sOne:Spec Tryz.prog :=
 Spec.auto Tryz.call86 [] [] (.one (.a (lsX (mC (mid false))))) [] [sStill.e,sToldId.e] [] 400 Tryz.func86 hmA (by kernel_rfl) (fun β=>by kernel_rfl)
end Go.Proofs.YtdiemgedlfnlmaaGreat.Y
end
section
namespace Go.Proofs.YtdiemgedlfnlmaaGreat
open Go.Proofs.YtdiemgedlfnlmaaGreat.Y
open Go Go.RowKit
set_option maxRecDepth 100000
def sNum8 (k:Int):Y.Spec Tryz.prog:=Y.Spec.auto Tryz.call73 [.one (svI k)] [] (.one (svI k)) [] [] [] 400 Tryz.func73 hmA (by kernel_rfl) (fun β=>by kernel_rfl)
def sIn8 (n m:Int) (hn : -9223372036854775808≤n∧n≤9223372036854775807:=by decide) (hm : -9223372036854775808≤m∧m≤9223372036854775807:=by decide):Y.Spec Tryz.prog :=
 Y.Spec.auto Tryz.call71 [.one (svI n),.one (svI m)] [] (svG (gint n m)) [] [(sR4Int n m hn hm).e] [] 400 Tryz.func71 hmA (by kernel_rfl) (fun β=>by kernel_rfl)
def sAt8 (n m:Int) (hn : -9223372036854775808≤n∧n≤9223372036854775807:=by decide) (hm : -9223372036854775808≤m∧m≤9223372036854775807:=by decide):Y.Spec Tryz.prog :=
 Y.Spec.auto Tryz.call210 [.one (svI n),.one (svI m)] [] (svP (.fin (gint n m))) [] [(sIn8 n m hn hm).e] [] 400 Tryz.func210 hmA (by kernel_rfl) (fun β=>by kernel_rfl)
def eqM0:Ev Tryz.prog:=eqEvM r40 r40 r40 r40 r40 r40 r40 r40 false
end Go.Proofs.YtdiemgedlfnlmaaGreat
end
section
namespace Go.Proofs.YtdiemgedlfnlmaaGreat.Y
open Go Go.RowKit
set_option maxRecDepth 100000
theorem rSetInt64_any {w:World} {b o:Nat} {n:Int} (hz:Slot w b o 4) (hr : -9223372036854775808≤n∧n≤9223372036854775807) :
  Calls Tryz.prog 360 #[.pointer (some ⟨b,o,none⟩),.int .i64 n] w fun e w'=>e=.returned (.pointer (some ⟨b,o,none⟩))∧RatAt w' b o (n:Rat)∧Touch w w' b o 4:=by
 have HZ:=Lib.hid hz
 have HR:=Lib.hid hr
 clear hz hr
 go_enter Tryz.func360,Tryz.ntmps360
 go_wp2_with fail
 refine (NewInt_any HR.out).mono ?_
 rintro e w1 ⟨c,rfl,hc,h1,hb1⟩
 have hlt:=HZ.out.lt
 have HB1:=Lib.hid hb1
 have H1:=Lib.hid h1
 have HC:Hid (c≠b):=show c≠b by omega
 clear h1 hb1 hc hlt
 go_wp2_with fail
 refine (SetInt_any (HZ.out.on HB1.out) H1.out HC.out).mono ?_
 rintro e w2 ⟨rfl,h2,ht⟩
 have H2:=Lib.hid h2
 have HT:=Lib.hid ((Touch.of_below HB1.out b o 4).trans ht)
 clear h2 ht
 go_wp2
 go_ret
 exact ⟨rfl,H2.out,HT.out⟩
theorem int_divInt (n:Int):((n:Int):Rat)=Rat.divInt n 1:=Rat.ext (divInt_one n).1.symm (divInt_one n).2.symm
def eSetI (i m:Nat) (n:Int) (hr : -9223372036854775808≤n∧n≤9223372036854775807):Ev Tryz.prog:=.fill 360 Tryz.call360 (fun β=>#[.pointer (some ⟨(β i).b,0,none⟩),.int .i64 n]) [] i 4 m (ratT (Rat.divInt n 1))
 (fun β w h ho hs=>by
  rw [← int_divInt]
  exact fillP ho (rSetInt64_any hs hr))
def fSetI (n:Int) (hr : -9223372036854775808≤n∧n≤9223372036854775807):Ev Tryz.prog:=dyn1 fun i m=>eSetI i m n hr
def sTldF {x:Rat} (hx:Sz KB x):Spec Tryz.prog :=
 ⟨265,Tryz.call265,[rV 0],[ratT x],.one (.a (fC x)),[],fun β w hh=>by
  obtain ⟨b,hb,k⟩:PR x w (β 0):=hh 0 (ratT x) rfl
  show Calls _ _ #[.pointer ((β 0).v 0)] w _
  rw [hb.1]
  refine (told_any k (hx.okR2 (by decide))).mono fun e w' ⟨p,s,t,he,hp,hs,ht,hB⟩=>?_
  obtain rfl:p=_:=hp.out
  obtain rfl:s=_:=hs.out
  obtain rfl:t=_:=ht.out
  exact ⟨[],(fun _ h=>by cases h),he,trivial,hB⟩,by kernel_rfl⟩
def sFInt (n:Int) (hn:n.natAbs<256) (hr : -9223372036854775808≤n∧n≤9223372036854775807):Spec Tryz.prog :=
 Spec.auto Tryz.call305 [.one (svI n)] [] (.one (.a (fC (Rat.divInt n 1)))) []
  [mkR,fSetI n hr,(sTldF ((Sz.small hn).mono (by decide))).e] [] 400 Tryz.func305 hmA (by kernel_rfl) (fun β=>by kernel_rfl)
def sGInt (n m:Int) (hn:n.natAbs<256:=by decide) (hm:m.natAbs<256:=by decide) (hn2 : -9223372036854775808≤n∧n≤9223372036854775807:=by decide) (hm2 : -9223372036854775808≤m∧m≤9223372036854775807:=by decide):Spec Tryz.prog :=
 Spec.auto Tryz.call230 [.one (svI n),.one (svI m)] [] (gS (gint n m)) [] [(sFInt n hn hn2).e,(sFInt m hm hm2).e] [] 400 Tryz.func230 hmA (by kernel_rfl) (fun β=>by kernel_rfl)
def mslide (b:GQ):MQ:=⟨gint 1 0,b,gint 0 0,gint 1 0,false⟩
def mstr (a:GQ):MQ:=⟨a,gint 0 0,gint 0 0,gint 1 0,false⟩
theorem fit10:FitG (gint 1 0):=fit_int (by decide) (by decide)
theorem fit00:FitG (gint 0 0):=fit_int (by decide) (by decide)
theorem mslide_fit {b:GQ} (h:FitG b):FitM (mslide b):=⟨fit10,h,fit00,fit10⟩
theorem mstr_fit {a:GQ} (h:FitG a):FitM (mstr a):=⟨h,fit00,fit00,fit10⟩
theorem mslide_nrm (b:GQ):Nrm (mslide b):=by
 unfold Nrm mslide
 rw [show gzero (gint 0 0)=true by kernel_rfl]
 exact gint10
theorem mstr_nrm (a:GQ):Nrm (mstr a):=by
 unfold Nrm mstr
 rw [show gzero (gint 0 0)=true by kernel_rfl]
 exact gint10
theorem mslide_det (b:GQ):gzero (mdet (mslide b))=false:=by
 rw [gz_false]
 intro e
 have:=congrArg GQ.re e
 simp only [mdet,mslide,gint10,g00,gsub,gmul,g0] at this
 exact absurd this (by grind)
theorem mstr_det (a:GQ):gzero (mdet (mstr a))=gzero a:=by
 have:mdet (mstr a)=a:=by
  refine GQ.ext2 ?_ ?_<;>(simp only [mdet,mstr,gint10,g00,gsub,gmul,g0]; grind)
 rw [this]
noncomputable def sMakeN {m:MQ} (h:FitM m) (hn:Nrm m) (h0:gzero (mdet m)=false):Spec Tryz.prog :=
 (sMake h h0).as [gS m.a,gS m.b,gS m.c,gS m.d,tB' m.t] (.tup [.a (lsX (maC m)),nI' (maK m)]) rfl (by
  show SV.tup [.a (lsX (maC (mnorm m))),nI' (maK (mnorm m))]=_
  rw [hn.id])
noncomputable def sSlide {b:GQ} (h:FitG b):Spec Tryz.prog :=
 Spec.auto Tryz.call93 [gS b] [] (.tup [.a (lsX (maC (mslide b))),nI' (maK (mslide b))]) []
  [(sGInt 1 0).e,(sGInt 0 0).e,(sGInt 1 0).e,(sMakeN (mslide_fit h) (mslide_nrm b) (mslide_det b)).e] [(1,7)] 800 Tryz.func93 hmA (by kernel_rfl) (fun β=>by kernel_rfl)
noncomputable def sStretch {a:GQ} (h:FitG a) (h0:gzero a=false):Spec Tryz.prog :=
 Spec.auto Tryz.call90 [gS a] [] (.tup [.a (lsX (maC (mstr a))),nI' (maK (mstr a))]) []
  [(sGInt 0 0).e,(sGInt 0 0).e,(sGInt 1 0).e,(sMakeN (mstr_fit h) (mstr_nrm a) (by rw [mstr_det,h0])).e] [(1,7)] 800 Tryz.func90 hmA (by kernel_rfl) (fun β=>by kernel_rfl)
def frX (x:Rat) (h:Fit x):Fr:=⟨fR x,.ok x h,rfl⟩
def gpX (z:GQ) (h:FitG z):Gp:=⟨frX z.re h.1,frX z.im h.2⟩
noncomputable def sStretchNo (g:Gp) (h:g.B=false):Spec Tryz.prog :=
 Spec.auto Tryz.call90 [g.C] [] (.tup [mob0,nI' 2]) []
  [(sGInt 0 0).e,(sGInt 0 0).e,(sGInt 1 0).e,(sMakeNo g (gpX (gint 0 0) fit00) (gpX (gint 0 0) fit00) (gpX (gint 1 0) fit10) false (r2:=true) (r3:=true) (r4:=true) h rfl rfl rfl rfl).e] [(1,7)] 800 Tryz.func90 hmA (by kernel_rfl) (fun β=>by kernel_rfl)
end Go.Proofs.YtdiemgedlfnlmaaGreat.Y
end
section
namespace Go.Proofs.YtdiemgedlfnlmaaGreat
open Go Go.RowKit Go.Shelf
set_option maxRecDepth 100000
set_option maxHeartbeats 1000000 in
theorem bwd_any (a:Option Addr) (len cap:Nat) (w:World) :
  Calls Tryz.prog 227 #[.slice a len cap] w fun e w'=>e=.returned (.func (.func 315) #[] #[.pointer (some ⟨w.heap.size,0,none⟩)])∧w'=w.alloc (.cells #[.slice a len cap] 110):=by
 refine (callsIn_wide (n:=1)).1 ?_
 refine callsIn_of_wp Tryz.func227 rfl trivial ?_ rfl
 simp only [Tryz.ntmps227,List.size_toArray,List.length_cons,List.length_nil,Nat.reduceAdd,Nat.reduceSub,Array.replicate_succ,Array.replicate_zero,List.push_toArray,List.append_toArray,List.nil_append,List.cons_append]
 gi_wp2
 go_ret
 exact ⟨rfl,rfl⟩
end Go.Proofs.YtdiemgedlfnlmaaGreat
namespace Go.Proofs.YtdiemgedlfnlmaaGreat.Y
open Go Go.RowKit
set_option maxRecDepth 100000
abbrev mcI (k:Int):SC:=.c (.b (.v (.int .i64 k)))
abbrev MOB:TypeId:=74
abbrev BWF:FuncId:=315
def bwPl (b:Nat):Pl:=⟨b,fun i=>some ⟨b,i,none⟩,fun _=>0,fun c=>c=b,fun _=>undef⟩
theorem bwd_own {i n:Nat} (h:Nat.blt i n=true) (β:Env) (w:World):Calls Tryz.prog 227 #[.slice (some ⟨(β i).b,0,none⟩) 2 2] w fun e w'=>∃ (g:Pl) (xs:List Pl),(w.heap.size≤g.b∧fresh β w [] xs∧∀ x∈xs,¬ x.F g.b)∧e=.returned ((SV.one (.c (.f (.func BWF) [] [.p n 0]))).den (extE β n (g::xs)))∧(Ob.box [.b (.s i 0 2 2)] 110).holds (extE β n (g::xs)) w' g∧newHold w' [] xs∧Below w.heap.size w w':=by
 rw [Nat.blt_eq] at h
 refine (bwd_any _ 2 2 w).mono fun e w' ⟨he,hw⟩=>?_
 subst hw
 have e1:extE β n [bwPl w.heap.size] n=bwPl w.heap.size:=by
  have:=extE_in (β:=β) (n:=n) (xs:=[bwPl w.heap.size]) (i:=0) rfl
  simpa using this
 have e2:extE β n [bwPl w.heap.size] i=β i:=extE_out (by simp; omega)
 refine ⟨bwPl w.heap.size,[],⟨Nat.le_refl _,(fun x hx=>by cases hx),fun x hx=>by cases hx⟩,?_,⟨⟨fun c=>Iff.rfl,fun i=>rfl⟩,?_⟩,trivial,?_⟩
 · rw [he]
   show _=Ending.returned (Value.func (.func BWF) #[] #[.pointer (some ⟨(extE β n [bwPl w.heap.size] n).b,0,none⟩)])
   rw [e1]
   rfl
 · show (w.alloc _).heap[w.heap.size]?=some (.cells #[.slice (some ⟨(extE β n [bwPl w.heap.size] i).b,0,none⟩) 2 2] _ (0,0))
   rw [e2,alloc_heap]
   simp
 · exact ((Below.refl _ w).alloc (Nat.le_refl _) _)
def evBwd:Ev Tryz.prog:=.dyn (fun o _ _=>isCallB o) fun _ xs ob=>lit (bkOf xs) fun i=>lit ob.length fun n=>match h:Nat.blt i n with
 | true=>.own 227 Tryz.call227 (fun β=>#[.slice (some ⟨(β i).b,0,none⟩) 2 2]) [] n (.box [.b (.s i 0 2 2)] 110) (.one (.c (.f (.func BWF) [] [.p n 0]))) [] (fun β w _=>bwd_own h β w)
 | false=>.cut
def mc2L (m q:MQ):List Lf:=mCl m++mCl q
abbrev mcNeed (m q:MQ) (K:Nat):List (Nat × Ob):=[(0,.box (mc2L m q) MOB),(K,.box [.b (.s 0 0 2 2)] 110)]
abbrev mcVs (m q:MQ):List (List SV):=[[.one (.c (.b (.v (.int .i64 1)))),.one (.a (mCl q))],[.one (.c (.b (.v (.int .i64 0)))),.one (.a (mCl m))]]
theorem mCl_len (m:MQ):(mCl m).length=33:=rfl
theorem mc_iter (m q:MQ) (K:Nat) (β:Env) (nn l:Nat) (J:Nat→World→Prop) (Jx:World→Prop) (W:World) (hJ:∀ k W,J k W→holdsAll β W (mcNeed m q K))
  (hY:∀ k W1,J k W1→k<(mcVs m q).length→YieldAt Fence.wide (nn-1) Tryz.prog l (((mcVs m q).getD k []).map (SV.den β)).toArray W1 fun e W'=>(e=.returned (.bool true)∧J (k+1) W')∨(e=.returned (.bool false)∧Jx W')) (h0:J 0 W) :
  CallsIn Fence.wide nn Tryz.prog BWF (#[.func (.yield l) #[] #[]]++#[.pointer (some ⟨(β K).b,0,none⟩)]) W fun e W'=>(∃ v,e=.returned v)∧(J (mcVs m q).length W'∨Jx W'):=by
 refine bwd1_in nn l (β K).b (β 0).b 2 2 (fun i=>if i=0 then (mCl m).map (Lf.den β) else (mCl q).map (Lf.den β)) (fun i=>?_) (by decide) J Jx (fun k W hj=>?_) (fun k W hj hk=>?_) W h0
 · split<;>(rw [List.length_map,mCl_len])
 · have h:=hJ k W hj
   have h1:(Ob.box (mc2L m q) MOB).holds β W (β 0):=h (0,_) (by simp)
   have h2:(Ob.box [.b (.s 0 0 2 2)] 110).holds β W (β K):=h (K,_) (by simp)
   refine ⟨?_,fun i hi j v hv=>?_⟩
   · simp only [World.cell?,h2.2]
     rfl
   · have hc:((mc2L m q).map (Lf.den β))[i*33+j]?=some v:=by
      unfold mc2L
      rw [List.map_append]
      match i,hi with
      | 0,_ =>
       have hv:((mCl m).map (Lf.den β))[j]?=some v:=hv
       rw [Nat.zero_mul,Nat.zero_add,List.getElem?_append_left (List.getElem?_eq_some_iff.1 hv).1]
       exact hv
      | 1,_ =>
       have hv:((mCl q).map (Lf.den β))[j]?=some v:=hv
       rw [List.getElem?_append_right (by rw [List.length_map,mCl_len]; omega),List.length_map,mCl_len]
       rw [show 1*33+j-33=j by omega]
       exact hv
     simp only [World.cell?,h1.2]
     simpa using hc
 · match k,hk with
   | 0,_=>exact hY 0 W hj (Nat.zero_lt_succ _)
   | 1,_=>exact hY 1 W hj (Nat.lt_succ_self _)
def sMbChk {q:MQ} (h:MayQ q):Spec Tryz.prog :=
 Spec.auto Tryz.call58 [.one (.a (mCl q))] [] (.one (mcI 0)) [] [(sOpenYes h).e] [] 400 Tryz.func58 hmA (by kernel_rfl) (fun β=>by kernel_rfl)
def sMcp1 {q:MQ} (h:MayQ q):Spec Tryz.prog :=
 Spec.auto Tryz.call226 [.one (.a (mCl q))] [] (svB false) [] [(sMbChk h).e] [] 400 Tryz.func226 hmA (by kernel_rfl) (fun β=>by kernel_rfl)
abbrev mcA:List SV:=[.one (.c (.b (.s 0 0 2 2)))]
abbrev mcFA:List SV:=[.one (.c (.b (.s 0 0 2 2))),(.one (.c (.f (.func 226) [] [])))]
section
variable {m q:MQ} (hm:MayQ m) (hq:MayQ q)
include hm hq
theorem mcIdx_ok (β:Env) (w:World) (hh:(Ob.box (mc2L m q) MOB).holds β w (β 0)) :
  Calls Tryz.prog 314 (mcFA.map (SV.den β)).toArray w fun e w'=>e=.returned (.int .i64 (-1))∧Below w.heap.size w w' :=
 bspec_ok [(sMcp1 hm).e,(sMcp1 hq).e] [] 800 Tryz.func314 hmA (fun β=>by kernel_rfl) (by kernel_rfl) (fun β=>rfl) β w hh
end
noncomputable def sMcIdx {m q:MQ} (hm:MayQ m) (hq:MayQ q):BSpec Tryz.prog :=
 ⟨314,Tryz.call314,mcFA,mc2L m q,MOB,.int .i64 (-1),mcIdx_ok hm hq,by kernel_rfl,fun _=>rfl⟩
theorem mcHas_ok {m q:MQ} (hm:MayQ m) (hq:MayQ q) (β:Env) (w:World) (hh:(Ob.box (mc2L m q) MOB).holds β w (β 0)) :
  Calls Tryz.prog 225 (mcFA.map (SV.den β)).toArray w fun e w'=>e=.returned (.bool false)∧Below w.heap.size w w' :=
 bspec_ok [(sMcIdx hm hq).e] [] 800 Tryz.func225 hmA (fun β=>by kernel_rfl) (by kernel_rfl) (fun β=>rfl) β w hh
noncomputable def sMcHas {m q:MQ} (hm:MayQ m) (hq:MayQ q):BSpec Tryz.prog :=
 ⟨225,Tryz.call225,mcFA,mc2L m q,MOB,.bool false,mcHas_ok hm hq,by kernel_rfl,fun _=>rfl⟩
theorem ma_fit {m:MQ} (h:FitM m):maC m=mCl m∧maK m=0:=by
 refine ⟨?_,(maC_yes h).2⟩
 unfold maC mCl
 simp only [gsC_yes h]
 rw [show selB (FitM m) m.t=m.t from if_pos h]
theorem mbeh_idr (m:MQ):mbeh m (mstill false)=m:=by
 obtain ⟨⟨a1,a2⟩,⟨b1,b2⟩,⟨c1,c2⟩,⟨d1,d2⟩,t⟩:=m
 cases t<;>(simp only [mbeh,mstill,mconj,cond_true,cond_false,gint10,gmul,gadd,gconj,g0]; congr 1<;>(congr 1<;>grind))
theorem mcmp_idr {m:MQ} (h:Nrm m):mcmp m (mstill false)=m:=by
 unfold mcmp
 rw [mbeh_idr,h.id]
theorem mcStill_sz:MSz KE (mstill false):=⟨(GSz.int (by decide) (by decide)).mono (by decide),g0_sz (by decide),g0_sz (by decide),(GSz.int (by decide) (by decide)).mono (by decide)⟩
theorem reg_still:Reg (mstill false):=Reg.id false
section
variable {m q:MQ} (hm:MayQ m) (hq:MayQ q)
abbrev mcX0 (q:MQ):MQ:=mcmp q (mstill false)
abbrev mcX1 (m q:MQ):MQ:=mcmp m (mcX0 q)
include hq in
theorem mcX0_eq:mcX0 q=q:=mcmp_idr hq.nrm
include hq in
theorem mcX0_sz:MSz 1024 (mcX0 q):=by rw [mcX0_eq hq]; exact fitM_sz hq.1
include hq in
theorem mcX0_reg:Reg (mcX0 q):=by rw [mcX0_eq hq]; exact hq.reg
include hm hq in
theorem mcX1_sz:MSz (dsz (bsz 1024 1024)) (mcX1 m q):=mcmp_sz (fitM_sz hm.1) (mcX0_sz hq) (hm.reg.beh (mcX0_reg hq))
noncomputable def mcT0:Spec Tryz.prog:=(sToldN ((mcX0_sz hq).mono (by decide)) (Nrm.cmp hq.reg reg_still)).conv (.tup [.a (lsX (mCl q)),mcI 0]) (by
 show SV.tup [.a (lsX (maC (mcX0 q))),.c (.b (.v (.int .i64 (maK (mcX0 q)))))]=_
 rw [mcX0_eq hq,(ma_fit hq.1).1,(ma_fit hq.1).2])
noncomputable def mcT1:Spec Tryz.prog:=sToldN ((mcX1_sz hm hq).mono (by decide)) (Nrm.cmp hm.reg (mcX0_reg hq))
noncomputable def mcT1Y (hF:FitM (mcX1 m q)):Spec Tryz.prog:=(mcT1 hm hq).conv (.tup [.a (lsX (mCl (mcX1 m q))),mcI 0]) (by
 show SV.tup [.a (lsX (maC (mcX1 m q))),.c (.b (.v (.int .i64 (maK (mcX1 m q)))))]=_
 rw [(ma_fit hF).1,(ma_fit hF).2])
noncomputable def mcT1N (hF:¬ FitM (mcX1 m q)):Spec Tryz.prog:=(mcT1 hm hq).conv (.tup [mob0,mcI 4]) (by
 show SV.tup [.a (lsX (maC (mcX1 m q))),.c (.b (.v (.int .i64 (maK (mcX1 m q)))))]=_
 rw [(maC_no hF).1,(maC_no hF).2]
 rfl)
noncomputable def mcE (last:List (Ev Tryz.prog)):List (Ev Tryz.prog) :=
 [(sMcHas hm hq).e,sStill.e,evBwd,(sOpenYes hq).e,(sBehR ((fitM_sz hq.1).mono (by decide)) mcStill_sz (hq.reg.beh reg_still)).e,(mcT0 hq).e,
  (sOpenYes hm).e,(sBehR ((fitM_sz hm.1).mono (by decide)) ((mcX0_sz hq).mono (by decide)) (hm.reg.beh (mcX0_reg hq))).e]++last
end
abbrev mcNs:List (Nat × Nat):=[]
abbrev mcRY (m q:MQ):SV:=.tup [.a (mCl (mcX1 m q)),mcI 0]
theorem mcY_ok {m q:MQ} (hm:MayQ m) (hq:MayQ q) (hF:FitM (mcX1 m q)) (β:Env) (w:World) (hh:(Ob.box (mc2L m q) MOB).holds β w (β 0)) :
  Calls Tryz.prog 87 (mcA.map (SV.den β)).toArray w fun e w'=>e=.returned ((mcRY m q).den β)∧Below w.heap.size w w' :=
 sx_range mcA [.box (mc2L m q) MOB] (mcE hm hq [(mcT1Y hm hq hF).e,(mcT1Y hm hq hF).e]) mcNs 2000 (mcRY m q) (mcNeed m q 12) (mcVs m q) BWF (fun β=>#[.pointer (some ⟨(β 12).b,0,none⟩)]) Tryz.func87 hmA Tryz.call315 (mc_iter m q 12)
  (fun β=>ok_of_maps (by kernel_rfl)) (by kernel_rfl) (by kernel_rfl) (fun _ _=>rfl) β w (fun k o ho=>by
   cases k with
   | zero=>simp only [List.getElem?_cons_zero] at ho; obtain rfl:=Option.some.inj ho; exact hh
   | succ k=>simp at ho)
abbrev mcRN:SV:=.tup [mob0,mcI 4]
theorem mcN_ok {m q:MQ} (hm:MayQ m) (hq:MayQ q) (hF:¬ FitM (mcX1 m q)) (β:Env) (w:World) (hh:(Ob.box (mc2L m q) MOB).holds β w (β 0)) :
  Calls Tryz.prog 87 (mcA.map (SV.den β)).toArray w fun e w'=>e=.returned (mcRN.den β)∧Below w.heap.size w w' :=
 sx_range mcA [.box (mc2L m q) MOB] (mcE hm hq [(mcT1N hm hq hF).e]) mcNs 2000 mcRN (mcNeed m q 12) (mcVs m q) BWF (fun β=>#[.pointer (some ⟨(β 12).b,0,none⟩)]) Tryz.func87 hmA Tryz.call315 (mc_iter m q 12)
  (fun β=>ok_of_maps (by kernel_rfl)) (by kernel_rfl) (by kernel_rfl) (fun _ _=>rfl) β w (fun k o ho=>by
   cases k with
   | zero=>simp only [List.getElem?_cons_zero] at ho; obtain rfl:=Option.some.inj ho; exact hh
   | succ k=>simp at ho)
noncomputable def sCompY {m q:MQ} (hm:MayQ m) (hq:MayQ q) (hF:FitM (mcmp m q)):BSpec Tryz.prog :=
 ⟨87,Tryz.call87,mcA,mc2L m q,MOB,(SV.tup [.a (mCl (mcmp m q)),mcI 0]).den idE,fun β w hh=>by
  have e:mcX1 m q=mcmp m q:=by unfold mcX1; rw [mcX0_eq hq]
  refine (mcY_ok hm hq (e▸hF) β w hh).mono fun e' w' ⟨he,hb⟩=>⟨?_,hb⟩
  rw [he]
  unfold mcRY
  rw [e]
  rfl,by kernel_rfl,fun β=>by kernel_rfl⟩
noncomputable def sCompN {m q:MQ} (hm:MayQ m) (hq:MayQ q) (hF:¬ FitM (mcmp m q)):BSpec Tryz.prog :=
 ⟨87,Tryz.call87,mcA,mc2L m q,MOB,(SV.tup [mob0,mcI 4]).den idE,fun β w hh=>by
  have e:mcX1 m q=mcmp m q:=by unfold mcX1; rw [mcX0_eq hq]
  refine (mcN_ok hm hq (e▸hF) β w hh).mono fun e' w' ⟨he,hb⟩=>⟨?_,hb⟩
  rw [he]
  rfl,by kernel_rfl,fun β=>by kernel_rfl⟩
end Go.Proofs.YtdiemgedlfnlmaaGreat.Y
end
section
namespace Go.Proofs.YtdiemgedlfnlmaaGreat.Y
open Go Go.RowKit
set_option maxRecDepth 100000
noncomputable abbrev pwF:Func:=Tryz.f85
noncomputable abbrev pwN:Nat:=sizeS pwF [.one (.a (mCl (mstill false))),.one (mcI 0)]
abbrev MTX:TypeId:=212
abbrev pwBx (k:Nat) (t:Bool):Ob:=.box [.b (.z k 0),.b (.z (k+1) 0),.b (.z (k+2) 0),.b (.z (k+3) 0),.b (.z (k+4) 0),.b (.z (k+5) 0),.b (.z (k+6) 0),.b (.z (k+7) 0),.b (.v (.bool t))] MTX
abbrev pwZ:List Lf:=lsX g0C++lsX g0C++lsX g0C++lsX g0C++[.b (.v (.bool false))]
abbrev pwOb (M Y:MQ):List Ob:=[.dead,.box pwZ MOB]++(mM M).map Thing.ob++[pwBx 2 M.t]++(mM Y).map Thing.ob++[pwBx 11 Y.t]
abbrev pwSl (n j:Int):List (Nat × SV):=[(4,.one (.c (.b (.p 1 0)))),(6,.one (.c (.b (.p 10 0)))),(8,.one (.c (.b (.p 19 0)))),(34,.one (mcI n)),(35,.one (mcI j))]
noncomputable abbrev pwC (M Y:MQ) (n j:Int) (ev:List (Ev Tryz.prog)):Cf Tryz.prog:=mkC Tryz.prog pwN 0 (pwSl n j) (pwOb M Y) ev
abbrev pwR (Y:MQ):SV:=.tup [.a (mCl Y),mcI 0]
abbrev pwH (β0:Env) (w:World) (R:MQ) (C:Cf Tryz.prog):Prop:=HdOk Tryz.prog 0 pwN w.heap.size w β0 (bodyPost Tryz.prog pwF (Said Tryz.prog pwF 0 (pwR R) [] β0 w)) C (lpAt pwF 0)
noncomputable def sTold1 {m:MQ} (h:MSz KM m) (h0:Nrm m) (hF:FitM m):Spec Tryz.prog:=(sToldN h h0).conv (.tup [.a (lsX (mCl m)),mcI 0]) (by
 show SV.tup [.a (lsX (maC m)),.c (.b (.v (.int .i64 (maK m))))]=_
 rw [(ma_fit hF).1,(ma_fit hF).2])
section
variable {M Y:MQ} (hM:MayQ M) (hF:FitM Y) (hr:Reg Y) (hF2:FitM (mcmp M Y))
noncomputable def pwE {n j:Int} (hj:decide (j<n)=true) {j2:Int} (hj2:IntKind.i64.wrap (j+1)=j2):List (Ev Tryz.prog) :=
 [.eqv 36 (.bool (decide (j<n))) (.bool true) (by rw [hj]),(sBehR ((fitM_sz hM.1).mono (by decide)) ((fitM_sz hF).mono (by decide)) (hM.reg.beh hr)).e,(sTold1 ((fitM_sz hF2).mono (by decide)) (Nrm.cmp hM.reg hr) hF2).e,.eqv 49 (.int .i64 (IntKind.i64.wrap (j+1))) (.int .i64 j2) (by rw [hj2]),.cut]
variable (β0:Env) (w:World) (R:MQ)
theorem pw_step {n j:Int} (hj:decide (j<n)=true) {j2:Int} (hj2:IntKind.i64.wrap (j+1)=j2) (h:pwH β0 w R (pwC M (mcmp M Y) n j2 [])):pwH β0 w R (pwC M Y n j (pwE hM hF hr hF2 hj hj2)) :=
 piece_ok (Ns:=[]) (m:=400) [] [0,1,2,3,4,5,6,7,8,9,10,20,21,22,23,24,25,26,27,19] hmA (by kernel_rfl) (fun β=>ok_of_maps (by kernel_rfl)) h
theorem pw_end (hN:Nrm Y) {n j:Int} (hj:decide (j<n)=false):pwH β0 w Y (pwC M Y n j [.eqv 36 (.bool (decide (j<n))) (.bool false) (by rw [hj]),(sTold1 ((fitM_sz hF).mono (by decide)) hN hF).e]) :=
 last_ok (Ns:=[]) (m:=400) hmA (fun β=>ok_of_maps (by kernel_rfl))
end
theorem pw_ev {P:Program} {m0 n B0:Nat} {w0:World} {β0:Env} {Q:Exit→Act→World→Prop} {u:Nat} {sl:List (Nat × SV)} {ob:List Ob} {ev ev':List (Ev P)} {p:Code × List Kf} (h:HdOk P m0 n B0 w0 β0 Q (mkC P n u sl ob ev) p):HdOk P m0 n B0 w0 β0 Q (mkC P n u sl ob ev') p :=
 fun β a w hβ hs=>h β a w hβ (hs.ev ev)
theorem nrm_still:Nrm (mstill false):=by
 unfold Nrm mstill
 rw [show gzero g0=true from rfl]
 exact gint10
abbrev pwA (M:MQ) (n:Int):List SV:=[.one (.a (mCl M)),.one (mcI n)]
noncomputable def pwS {M:MQ} (hM:MayQ M) {n:Int} (h1:decide (n < -256)=false) (h2:decide (256<n)=false) (h3:decide (n<0)=false):List (Ev Tryz.prog) :=
 [(sOpenYes hM).e,.eqv 20 (.bool (decide (n < -256))) (.bool false) (by rw [h1]),.eqv 24 (.bool (decide (256<n))) (.bool false) (by rw [h2]),.eqv 28 (.bool (decide (n<0))) (.bool false) (by rw [h3]),sStill.e,.cut]
theorem pw_start {M:MQ} (hM:MayQ M) {n:Int} (h1:decide (n < -256)=false) (h2:decide (256<n)=false) (h3:decide (n<0)=false) (R:MQ) (β:Env) (w:World) (h:pwH β w R (pwC M (mstill false) n 0 [])) :
  Calls Tryz.prog 85 ((pwA M n).map (SV.den β)).toArray w (Said Tryz.prog pwF 0 (pwR R) [] β w) :=
 sx_cut (P:=Tryz.prog) (pwA M n) [] (pwS hM h1 h2 h3) [] [] 400 (pwR R) [] Tryz.func85 hmA (u:=0) (sl:=pwSl n 0) (ob:=pwOb M (mstill false)) (σ:=[0,1,2,3,4,5,6,7,8,9,10,11,12,13,14,15,16,17,18,19]) (p':=lpAt pwF 0) (by kernel_rfl) (fun β=>ok_of_maps (by kernel_rfl)) (by kernel_rfl) (by kernel_rfl) β w (fun k o ho=>by simp at ho) h
section
variable {M:MQ} (hM:MayQ M) (P:Nat→MQ) (h0:P 0=mstill false) (hS:∀ j,P (j+1)=mcmp M (P j)) {n:Nat} (hn:n≤256) (hF:∀ j,j≤n→FitM (P j))
include hM h0 hS
theorem pw_reg:∀ j,Reg (P j)∧Nrm (P j)
 | 0=>by rw [h0]; exact ⟨reg_still,nrm_still⟩
 | j+1=>by rw [hS]; exact ⟨hM.reg.cmp (pw_reg j).1,Nrm.cmp hM.reg (pw_reg j).1⟩
include hn hF
theorem pw_loop (β:Env) (w:World):∀ (d j:Nat),j+d=n→pwH β w (P n) (pwC M (P j) n j [])
 | 0,j,e=>by
  obtain rfl:j=n:=by omega
  exact pw_ev (pw_end (hF j (Nat.le_refl _)) β w (pw_reg hM P h0 hS j).2 (decide_eq_false (by omega)))
 | d+1,j,e=>by
  have h:=pw_loop β w d (j+1) (by omega)
  have h2:pwH β w (P n) (pwC M (mcmp M (P j)) n ((j+1:Nat):Int) []):=by rw [← hS j]; exact h
  exact pw_ev (pw_step hM (hF j (by omega)) (pw_reg hM P h0 hS j).1 (by rw [← hS j]; exact hF (j+1) (by omega)) β w (P n) (decide_eq_true (by omega)) (j2:=((j+1:Nat):Int)) (by rw [IntKind.wrap_i64]; omega) h2)
noncomputable def msPower:Spec Tryz.prog :=
 ⟨85,Tryz.call85,pwA M n,[],pwR (P n),[],fun β w _=>(pw_start hM (n:=n) (decide_eq_false (by omega)) (decide_eq_false (by omega)) (decide_eq_false (by omega)) (P n) β w (by
  have:=pw_loop hM P h0 hS hn hF β w n 0 (by omega)
  rw [h0] at this
  exact this)).mono fun e w' h=>by
  obtain ⟨β',q,obj,_,rfl,_,_,_,g⟩:=h
  exact ⟨[],(fun _ h=>by cases h),rfl,trivial,g.bel⟩,by kernel_rfl⟩
end
noncomputable def msPowerNo {M:MQ} (hM:MayQ M) {n:Int} (h1:decide (n < -256)=false) (h2:decide (256<n)=true):Spec Tryz.prog :=
 Spec.auto Tryz.call85 (pwA M n) [] (.tup [mob0,mcI 2]) [] [(sOpenYes hM).e,.eqv 20 (.bool (decide (n < -256))) (.bool false) (by rw [h1]),.eqv 24 (.bool (decide (256<n))) (.bool true) (by rw [h2])] [] 400 Tryz.func85 hmA (by kernel_rfl) (fun β=>by kernel_rfl)
theorem led_shift {d:Nat} (h0:0<d) (h:d<256):∀ k:Nat,led (256^k*d)=List.replicate k 0++[d]
 | 0=>by
  rw [Nat.pow_zero,Nat.one_mul,led_pos d h0,Nat.mod_eq_of_lt h,Nat.div_eq_of_lt h,led_zero]
  rfl
 | k+1=>by
  have e:256^(k+1)*d=256*(256^k*d):=by rw [Nat.pow_succ,Nat.mul_comm (256^k) 256,Nat.mul_assoc]
  have hp:0<256^k*d:=Nat.mul_pos (Nat.pow_pos (by decide)) h0
  rw [e,led_pos _ (Nat.mul_pos (by decide) hp),Nat.mul_mod_right,Nat.mul_div_cancel_left _ (by decide),led_shift h0 h k]
  rfl
theorem mag_shift {d:Nat} (h0:0<d) (h:d<256) (k:Nat):mag (256^k*d)=strN (d::List.replicate k 0):=by
 unfold mag
 rw [led_shift h0 h k,List.reverse_append,List.reverse_replicate]
 rfl
theorem mag_len {d:Nat} (h0:0<d) (h:d<256) (k:Nat):(mag (256^k*d)).size=k+1:=by
 rw [mag_shift h0 h k]
 unfold strN
 simp [ByteArray.size]
def twN (k d:Nat):Nat:=256^k*d
def meAt:List Ob→Nat→Nat
 | [],_=>0
 | .ow _ _::_,k=>k
 | _::r,k=>meAt r (k+1)
def byT (xs:List Nat):Thing:=thing (fun w g=>g.one∧BBuf w g.b xs)
 ⟨fun w g h c hc=>by rw [(h.1.1 c).1 hc]; exact h.2.lt,fun w w' g h k=>⟨h.1,h.2.1,by rw [k.block g.b h.2.lt]; exact h.2.2⟩,
  fun w w' g b o n m h hs ht hF=>⟨h.1,h.2.1,by rw [ht.block g.b h.2.lt (fun e=>hF ((h.1.1 _).2 e.symm))]; exact h.2.2⟩⟩
def byO (xs:List Nat):Ob:=.ow (byT xs) 5
theorem by_make {L:Nat} (hL:L≤34359738368) (x y:Operand) (β:Env) (w:World) (ρ:Operand→Value) (o:Oper) (n:Nat) (ho:o.op=.makeSlice 245 x y) (hx:(Op.makeSlice 245 x y).operands.toList.map ρ=[.int .i64 L,.int .i64 L]) :
  ∃ (g:Pl) (w':World),(execOp ρ o).run Tryz.prog w=.ok (.value ((SV.one (.c (.b (.s n 0 L L)))).den (extE β n [g]))) w'∧(byO (List.replicate L 0)).holds (extE β n [g]) w' g∧Grow β w w' none g∧owF β [] none g:=by
 have h3:ρ x=.int .i64 L∧ρ y=.int .i64 L:=by simpa [Op.operands] using hx
 obtain ⟨w',h4,h5,h6,h7⟩:=run_make_bytes w .i64 .i64 L L L L rfl rfl (Nat.le_refl _) hL
 refine ⟨newPl w.heap.size,w',?_,⟨⟨rfl,by decide,?_⟩,⟨fun c=>Iff.rfl,fun i=>rfl⟩,h5⟩,.inl ⟨Nat.le_refl _,h6⟩,fun c hc=>.inl hc⟩
 · have e:(SV.one (.c (.b (.s n 0 L L)))).den (extE β n [newPl w.heap.size])=.slice (some ⟨w.heap.size,0,none⟩) L L:=by
    have:=extE_in (β:=β) (n:=n) (xs:=[newPl w.heap.size]) (i:=0) rfl
    simp only [Nat.add_zero] at this
    simp only [SV.den,SC.den,Lf.den,Lf0.den,this]
    rfl
   rw [e]
   unfold execOp
   rw [ho]
   dsimp only
   rw [h3.1,h3.2]
   simp [go_sem,h4]
 · obtain ⟨_,cs,hc,_⟩:=h5
   exact ⟨_,hc⟩
def eByMk {L:Nat} (hL:L≤34359738368):Ev Tryz.prog:=.dynU (fun o _ _=>match o.op,o.dst with
 | .makeSlice t _ _,some _=>Nat.beq t 245
 | _,_=>false) fun o _ ob=>match o.op,o.dst with
 | .makeSlice _ x y,some d=>lit ob.length fun n=>.upd (some d) (.makeSlice 245 x y) (fun _=>[.int .i64 L,.int .i64 L]) [] none n (byO (List.replicate L 0)) (.one (.c (.b (.s n 0 L L)))) (fun β w _ _ ρ o ho hx=>by_make hL x y β w ρ o n ho hx)
 | _,_=>.cut
theorem by_put {xs:List Nat} {d:Nat} (hd:d<256) (h0:0<xs.length) {k:Nat} (x y:Operand) (β:Env) (w:World) (h:(byO xs).holds β w (β k)) (ρ:Operand→Value) (o:Oper) (ho:o.op=.store 5 x y)
  (hx:(Op.store 5 x y).operands.toList.map ρ=[.pointer (some ⟨(β k).b,0,none⟩),.int .u8 d]):∃ w':World,(execOp ρ o).run Tryz.prog w=.ok .skip w'∧(byO (xs.set 0 d)).holds β w' (β k)∧NW w (β k).b∧∃ o n,Touch w w' (β k).b o n:=by
 obtain ⟨⟨hF,_,_⟩,h1,h2⟩:=h
 have hb:=h2.set 0 d d hd rfl
 obtain ⟨_,cs,hc,hs,_⟩:=id h2
 refine ⟨w.setCell ⟨(β k).b,0,none⟩ (.int .u8 d),?_,⟨⟨hF,by decide,?_⟩,h1,hb⟩,(fun cs' fr e=>by rw [hc] at e; injection e with e; injection e with _ e; exact absurd e (by decide)),0,1,?_⟩
 · have h3:ρ x=.pointer (some ⟨(β k).b,0,none⟩)∧ρ y=.int .u8 d:=by simpa [Op.operands] using hx
   unfold execOp
   rw [ho]
   dsimp only
   rw [h3.1,h3.2]
   simp [go_sem,run_store_int,stored,h2.cell 0 h0,h2.frozen 0]
 · obtain ⟨_,cs',hc',_⟩:=hb
   exact ⟨_,hc'⟩
 · exact (Touch.refl w _ 0 1).set_ 0 (by omega) _
def eByPut {xs:List Nat} {d:Nat} (hd:d<256) (h0:0<xs.length):Ev Tryz.prog:=.dynU (fun o _ _=>match o.op with
 | .store t _ _=>Nat.beq t 5
 | _=>false) fun o _ ob=>match o.op with
 | .store _ x y=>lit (meAt ob 0) fun k=>.chg (.store 5 x y) (fun β=>[.pointer (some ⟨(β k).b,0,none⟩),.int .u8 d]) [] k (byO xs) (byO (xs.set 0 d)) (fun β w _ h ρ o ho hx=>by_put hd h0 x y β w h ρ o ho hx)
 | _=>.cut
def eByStr {L:Nat} {xs:List Nat} (hl:xs.length=L):Ev Tryz.prog:=.dyn (fun o _ _=>match o.op with
 | .convert a b (.tmp _)=>Nat.beq a 245&&Nat.beq b 9
 | _=>false) fun o ys _=>match o.op with
 | .convert _ _ (.tmp t)=>lit (slOf (ys.getD 0 undefS)) fun i=>.rd (o.dst.getD 0) (.convert 245 9 (.tmp t)) (fun β=>[.slice (some ⟨(β i).b,0,none⟩) L L]) [(i,byO xs)] 0 (.one (.c (.b (.v (.string (strN xs)))))) [] (fun β w hh ρ o ho hx=>by
  have h1:(byO xs).holds β w (β i):=hh (i,_) (List.mem_singleton.2 rfl)
  have h2:ρ (.tmp t)=.slice (some ⟨(β i).b,0,none⟩) L L:=by simpa [Op.operands] using hx
  refine ⟨[],w,(fun _ h=>by cases h),?_,trivial,Below.refl _ _⟩
  unfold execOp
  rw [ho]
  simp only [h2]
  have h3:=string_of_byt (h1.2.2.byt (cap:=L) hl)
  simp [go_sem,h3]
  rfl)
 | _=>.cut
abbrev twC (s:ByteArray):List Lf:=(gC (gint 1 0)).set 1 (.b (.v (.string s)))
def twS (k d:Nat):ByteArray:=strN ((List.replicate (k+1) 0).set 0 d)
def sTwoA:Spec Tryz.prog :=
 Spec.auto Tryz.call91 [.one (mcI 8191)] [] (.one (.a (twC (twS 1023 128)))) [] [eByMk (L:=1024) (by decide),eByPut (xs:=List.replicate 1024 0) (d:=128) (by decide) (by rw [List.length_replicate]; decide),(sIn8 1 0).e,eByStr (L:=1024) (xs:=(List.replicate 1024 0).set 0 128) (by rw [List.length_set,List.length_replicate])] [] 2000 Tryz.func91 hmA (by kernel_rfl) (fun β=>by kernel_rfl)
theorem bw3_own {i n:Nat} (h:Nat.blt i n=true) (β:Env) (w:World):Calls Tryz.prog 227 #[.slice (some ⟨(β i).b,0,none⟩) 3 3] w fun e w'=>∃ (g:Pl) (xs:List Pl),(w.heap.size≤g.b∧fresh β w [] xs∧∀ x∈xs,¬ x.F g.b)∧e=.returned ((SV.one (.c (.f (.func BWF) [] [.p n 0]))).den (extE β n (g::xs)))∧(Ob.box [.b (.s i 0 3 3)] 110).holds (extE β n (g::xs)) w' g∧newHold w' [] xs∧Below w.heap.size w w':=by
 rw [Nat.blt_eq] at h
 refine (bwd_any _ 3 3 w).mono fun e w' ⟨he,hw⟩=>?_
 subst hw
 have e1:extE β n [bwPl w.heap.size] n=bwPl w.heap.size:=by
  have:=extE_in (β:=β) (n:=n) (xs:=[bwPl w.heap.size]) (i:=0) rfl
  simpa using this
 have e2:extE β n [bwPl w.heap.size] i=β i:=extE_out (by simp; omega)
 refine ⟨bwPl w.heap.size,[],⟨Nat.le_refl _,(fun x hx=>by cases hx),fun x hx=>by cases hx⟩,?_,⟨⟨fun c=>Iff.rfl,fun i=>rfl⟩,?_⟩,trivial,?_⟩
 · rw [he]
   show _=Ending.returned (Value.func (.func BWF) #[] #[.pointer (some ⟨(extE β n [bwPl w.heap.size] n).b,0,none⟩)])
   rw [e1]
   rfl
 · show (w.alloc _).heap[w.heap.size]?=some (.cells #[.slice (some ⟨(extE β n [bwPl w.heap.size] i).b,0,none⟩) 3 3] _ (0,0))
   rw [e2,alloc_heap]
   simp
 · exact ((Below.refl _ w).alloc (Nat.le_refl _) _)
def evBw3:Ev Tryz.prog:=.dyn (fun o _ _=>isCallB o) fun _ xs ob=>lit (bkOf xs) fun i=>lit ob.length fun n=>match h:Nat.blt i n with
 | true=>.own 227 Tryz.call227 (fun β=>#[.slice (some ⟨(β i).b,0,none⟩) 3 3]) [] n (.box [.b (.s i 0 3 3)] 110) (.one (.c (.f (.func BWF) [] [.p n 0]))) [] (fun β w _=>bw3_own h β w)
 | false=>.cut
def m3L (a b c:MQ):List Lf:=mCl a++(mCl b++mCl c)
abbrev m3Need (a b c:MQ) (K:Nat):List (Nat × Ob):=[(0,.box (m3L a b c) MOB),(K,.box [.b (.s 0 0 3 3)] 110)]
abbrev m3Vs (a b c:MQ):List (List SV):=[[.one (.c (.b (.v (.int .i64 2)))),.one (.a (mCl c))],[.one (.c (.b (.v (.int .i64 1)))),.one (.a (mCl b))],[.one (.c (.b (.v (.int .i64 0)))),.one (.a (mCl a))]]
theorem m3_iter (a b c:MQ) (K:Nat) (β:Env) (nn l:Nat) (J:Nat→World→Prop) (Jx:World→Prop) (W:World) (hJ:∀ k W,J k W→holdsAll β W (m3Need a b c K))
  (hY:∀ k W1,J k W1→k<(m3Vs a b c).length→YieldAt Fence.wide (nn-1) Tryz.prog l (((m3Vs a b c).getD k []).map (SV.den β)).toArray W1 fun e W'=>(e=.returned (.bool true)∧J (k+1) W')∨(e=.returned (.bool false)∧Jx W')) (h0:J 0 W) :
  CallsIn Fence.wide nn Tryz.prog BWF (#[.func (.yield l) #[] #[]]++#[.pointer (some ⟨(β K).b,0,none⟩)]) W fun e W'=>(∃ v,e=.returned v)∧(J (m3Vs a b c).length W'∨Jx W'):=by
 refine bwd1_in nn l (β K).b (β 0).b 3 3 (fun i=>if i=0 then (mCl a).map (Lf.den β) else if i=1 then (mCl b).map (Lf.den β) else (mCl c).map (Lf.den β)) (fun i=>?_) (by decide) J Jx (fun k W hj=>?_) (fun k W hj hk=>?_) W h0
 · split
   · rw [List.length_map,mCl_len]
   · split<;>(rw [List.length_map,mCl_len])
 · have h:=hJ k W hj
   have h1:(Ob.box (m3L a b c) MOB).holds β W (β 0):=h (0,_) (by simp)
   have h2:(Ob.box [.b (.s 0 0 3 3)] 110).holds β W (β K):=h (K,_) (by simp)
   refine ⟨?_,fun i hi j v hv=>?_⟩
   · simp only [World.cell?,h2.2]
     rfl
   · have hc:((m3L a b c).map (Lf.den β))[i*33+j]?=some v:=by
      unfold m3L
      rw [List.map_append,List.map_append]
      match i,hi with
      | 0,_ =>
       have hv:((mCl a).map (Lf.den β))[j]?=some v:=hv
       rw [Nat.zero_mul,Nat.zero_add,List.getElem?_append_left (List.getElem?_eq_some_iff.1 hv).1]
       exact hv
      | 1,_ =>
       have hv:((mCl b).map (Lf.den β))[j]?=some v:=hv
       rw [List.getElem?_append_right (by rw [List.length_map,mCl_len]; omega),List.length_map,mCl_len]
       rw [show 1*33+j-33=j by omega,List.getElem?_append_left (List.getElem?_eq_some_iff.1 hv).1]
       exact hv
      | 2,_ =>
       have hv:((mCl c).map (Lf.den β))[j]?=some v:=hv
       rw [List.getElem?_append_right (by rw [List.length_map,mCl_len]; omega),List.length_map,mCl_len,List.getElem?_append_right (by rw [List.length_map,mCl_len]; omega),List.length_map,mCl_len]
       rw [show 2*33+j-33-33=j by omega]
       exact hv
     simp only [World.cell?,h1.2]
     simpa using hc
 · match k,hk with
   | 0,_=>exact hY 0 W hj (show 0<3 by decide)
   | 1,_=>exact hY 1 W hj (show 1<3 by decide)
   | 2,_=>exact hY 2 W hj (show 2<3 by decide)
abbrev m3A:List SV:=[.one (.c (.b (.s 0 0 3 3)))]
abbrev m3FA:List SV:=[.one (.c (.b (.s 0 0 3 3))),(.one (.c (.f (.func 226) [] [])))]
theorem m3Idx_ok {a b c:MQ} (ha:MayQ a) (hb:MayQ b) (hc:MayQ c) (β:Env) (w:World) (hh:(Ob.box (m3L a b c) MOB).holds β w (β 0)) :
  Calls Tryz.prog 314 (m3FA.map (SV.den β)).toArray w fun e w'=>e=.returned (.int .i64 (-1))∧Below w.heap.size w w' :=
 bspec_ok [(sMcp1 ha).e,(sMcp1 hb).e,(sMcp1 hc).e] [] 800 Tryz.func314 hmA (fun β=>by kernel_rfl) (by kernel_rfl) (fun β=>rfl) β w hh
noncomputable def sM3Idx {a b c:MQ} (ha:MayQ a) (hb:MayQ b) (hc:MayQ c):BSpec Tryz.prog :=
 ⟨314,Tryz.call314,m3FA,m3L a b c,MOB,.int .i64 (-1),m3Idx_ok ha hb hc,by kernel_rfl,fun _=>rfl⟩
theorem m3Has_ok {a b c:MQ} (ha:MayQ a) (hb:MayQ b) (hc:MayQ c) (β:Env) (w:World) (hh:(Ob.box (m3L a b c) MOB).holds β w (β 0)) :
  Calls Tryz.prog 225 (m3FA.map (SV.den β)).toArray w fun e w'=>e=.returned (.bool false)∧Below w.heap.size w w' :=
 bspec_ok [(sM3Idx ha hb hc).e] [] 800 Tryz.func225 hmA (fun β=>by kernel_rfl) (by kernel_rfl) (fun β=>rfl) β w hh
noncomputable def sM3Has {a b c:MQ} (ha:MayQ a) (hb:MayQ b) (hc:MayQ c):BSpec Tryz.prog :=
 ⟨225,Tryz.call225,m3FA,m3L a b c,MOB,.bool false,m3Has_ok ha hb hc,by kernel_rfl,fun _=>rfl⟩
noncomputable def m3E {a b c:MQ} (ha:MayQ a) (hb:MayQ b) (hc:MayQ c) (last:List (Ev Tryz.prog)):List (Ev Tryz.prog) :=
 [(sM3Has ha hb hc).e,sStill.e,evBw3,(sOpenYes hc).e,(sBehR ((fitM_sz hc.1).mono (by decide)) mcStill_sz (hc.reg.beh reg_still)).e,(mcT0 hc).e,
  (sOpenYes hb).e,(sBehR ((fitM_sz hb.1).mono (by decide)) ((mcX0_sz hc).mono (by decide)) (hb.reg.beh (mcX0_reg hc))).e]++last
theorem m3N_ok {a b c:MQ} (ha:MayQ a) (hb:MayQ b) (hc:MayQ c) (hF:¬ FitM (mcX1 b c)) (β:Env) (w:World) (hh:(Ob.box (m3L a b c) MOB).holds β w (β 0)) :
  Calls Tryz.prog 87 (m3A.map (SV.den β)).toArray w fun e w'=>e=.returned (mcRN.den β)∧Below w.heap.size w w' :=
 sx_range m3A [.box (m3L a b c) MOB] (m3E ha hb hc [(mcT1N hb hc hF).e]) mcNs 2000 mcRN (m3Need a b c 12) (m3Vs a b c) BWF (fun β=>#[.pointer (some ⟨(β 12).b,0,none⟩)]) Tryz.func87 hmA Tryz.call315 (m3_iter a b c 12)
  (fun β=>ok_of_maps (by kernel_rfl)) (by kernel_rfl) (by kernel_rfl) (fun _ _=>rfl) β w (fun k o ho=>by
   cases k with
   | zero=>simp only [List.getElem?_cons_zero] at ho; obtain rfl:=Option.some.inj ho; exact hh
   | succ k=>simp at ho)
noncomputable def sComp3N {a b c:MQ} (ha:MayQ a) (hb:MayQ b) (hc:MayQ c) (hF:¬ FitM (mcmp b c)):BSpec Tryz.prog :=
 ⟨87,Tryz.call87,m3A,m3L a b c,MOB,(SV.tup [mob0,mcI 4]).den idE,fun β w hh=>by
  have e:mcX1 b c=mcmp b c:=by unfold mcX1; rw [mcX0_eq hc]
  refine (m3N_ok ha hb hc (e▸hF) β w hh).mono fun e' w' ⟨he,hb⟩=>⟨?_,hb⟩
  rw [he]
  rfl,by kernel_rfl,fun β=>by kernel_rfl⟩
def nq (n:Nat):GQ:=⟨(n:Rat),0⟩
theorem nq_num (n:Nat):(n:Rat).num=n∧(n:Rat).den=1:=⟨Rat.num_natCast n,Rat.den_natCast n⟩
theorem nq_C (n:Nat):gC (nq n)=twC (mag n):=by
 unfold gC nq
 simp only [nq_num]
 rw [show decide (((n:Int))<0)=false from decide_eq_false (by omega),Int.natAbs_natCast]
 rfl
theorem twS_mag {k d:Nat} (h0:0<d) (h:d<256):twS k d=mag (twN k d):=by
 unfold twS twN
 rw [mag_shift h0 h k,List.replicate_succ,List.set_cons_zero]
theorem mg0:(mag 0).size≤1024:=Nat.le_of_ble_eq_true (by kernel_rfl)
theorem mg1:(mag 1).size≤1024:=Nat.le_of_ble_eq_true (by kernel_rfl)
theorem nq_fit {n:Nat}:FitG (nq n)↔(mag n).size≤1024:=by
 unfold FitG nq Fit
 simp only [nq_num,Int.natAbs_natCast]
 exact ⟨fun h=>h.1.1,fun h=>⟨⟨h,mg1⟩,mg0,mg1⟩⟩
theorem nq_zero {n:Nat} (h:0<n):gzero (nq n)=false:=by
 rw [gz_false]
 intro e
 have:=congrArg GQ.re e
 have h2:((n:Nat):Rat)=((0:Nat):Rat):=this
 rw [Rat.natCast_inj] at h2
 omega
theorem nq_mul (n m:Nat):gmul (nq n) (nq m)=nq (n*m):=by
 refine GQ.ext2 ?_ ?_
 · show (n:Rat)*m-0*0=((n*m:Nat):Rat)
   rw [Rat.natCast_mul]
   grind
 · show (n:Rat)*0+0*(m:Rat)=0
   grind
theorem nq_int (n:Nat):gint n 0=nq n:=by
 unfold gint nq
 congr 1
 exact (int_divInt n).symm
theorem mstr_beh (a b:GQ):mbeh (mstr a) (mstr b)=mstr (gmul a b):=by
 refine mq_ext ?_ ?_ ?_ ?_ rfl<;>(refine GQ.ext2 ?_ ?_<;>(simp only [mbeh,mstr,mconj,cond_false,gint10,g00,g0,gmul,gadd]; grind))
theorem mstr_cmp (a b:GQ):mcmp (mstr a) (mstr b)=mstr (gmul a b):=by
 unfold mcmp
 rw [mstr_beh,(mstr_nrm _).id]
theorem mslide_cmp (a b:GQ):mcmp (mslide a) (mslide b)=mslide (gadd a b):=by
 unfold mcmp
 rw [show mbeh (mslide a) (mslide b)=mslide (gadd a b) by
  refine mq_ext ?_ ?_ ?_ ?_ rfl<;>(refine GQ.ext2 ?_ ?_<;>(simp only [mbeh,mslide,mconj,cond_false,gint10,g00,g0,gmul,gadd]; grind)),(mslide_nrm _).id]
theorem mstr_may {a:GQ} (h:FitG a) (h0:gzero a=false):MayQ (mstr a):=⟨mstr_fit h,by rw [mstr_det,h0],.inr ⟨by kernel_rfl,by kernel_rfl⟩⟩
theorem mslide_may {a:GQ} (h:FitG a):MayQ (mslide a):=⟨mslide_fit h,mslide_det a,.inr ⟨by kernel_rfl,by kernel_rfl⟩⟩
def nqi (n:Nat):GQ:=⟨(n:Rat)⁻¹,0⟩
theorem nqi_fit {n:Nat} (h:0<n) (hf:(mag n).size≤1024):FitG (nqi n):=by
 have e:(n:Rat)⁻¹=⟨1,n,by omega,by simp⟩:=by
  have h1:(n:Rat)=⟨n,1,by decide,by simp⟩:=rfl
  rw [h1]
  show Rat.inv _=_
  unfold Rat.inv
  rw [dif_neg (by show ¬ (n:Int)<0; omega),dif_pos (by show (n:Int) > 0; omega)]
  rfl
 unfold FitG nqi
 rw [e]
 exact ⟨⟨mg1,hf⟩,mg0,mg1⟩
theorem nqi_mul {n:Nat} (h:0<n):gmul (nqi n) (nq n)=gint 1 0:=by
 have h1:(n:Rat)≠0:=fun e=>by
  have h2:((n:Nat):Rat)=((0:Nat):Rat):=e
  rw [Rat.natCast_inj] at h2
  omega
 refine GQ.ext2 ?_ ?_
 · show (n:Rat)⁻¹*n-0*0=1
   grind
 · show (n:Rat)⁻¹*0+0*(n:Rat)=0
   grind
theorem mstr_inv {n:Nat} (h:0<n):minv (mstr (nq n))=mstr (nqi n):=by
 have h0:nq n≠g0:=gz_false.1 (nq_zero h)
 have hm:gmul (nqi n) (nq n)=⟨1,0⟩:=(nqi_mul h).trans gint10
 unfold minv
 rw [show minv0 (mstr (nq n))=⟨gint 1 0,gint 0 0,gint 0 0,nq n,false⟩ by
  refine mq_ext ?_ ?_ ?_ ?_ rfl<;>(refine GQ.ext2 ?_ ?_<;>(simp only [minv0,mundo0,mstr,mconj,cond_false,gint10,g00,g0,gneg]; try grind))]
 unfold mnorm mnormB
 rw [show gzero (MQ.mk (gint 1 0) (gint 0 0) (gint 0 0) (nq n) false).c=true by kernel_rfl]
 refine mq_ext ?_ ?_ ?_ ?_ rfl
 · show gdiv (gint 1 0) (nq n)=nqi n
   rw [gdiv_eq_iff h0,hm,gint10]
 · show gdiv (gint 0 0) (nq n)=gint 0 0
   rw [gdiv_eq_iff h0,g00]
   refine GQ.ext2 ?_ ?_<;>(simp only [gmul,g0]; grind)
 · show gdiv (gint 0 0) (nq n)=gint 0 0
   rw [gdiv_eq_iff h0,g00]
   refine GQ.ext2 ?_ ?_<;>(simp only [gmul,g0]; grind)
 · show gdiv (nq n) (nq n)=gint 1 0
   rw [gq_div_self h0,gint10]
theorem mstr_send (a p:GQ):msend (mstr a) (.fin p) false=.fin (gmul a p):=by
 unfold msend
 show Pt.fin (gdiv (gadd (gmul a p) (gint 0 0)) (gadd (gmul (gint 0 0) p) (gint 1 0)))=_
 rw [show gadd (gmul (gint 0 0) p) (gint 1 0)=⟨1,0⟩ by
  refine GQ.ext2 ?_ ?_<;>(simp only [gint10,g00,g0,gmul,gadd]; grind),gq_div_one]
 congr 1
 refine GQ.ext2 ?_ ?_<;>(simp only [g00,g0,gmul,gadd]; grind)
theorem mstr_msD (a p:GQ):gzero (msD (mstr a) (.fin p))=false:=by
 rw [gz_false]
 intro e
 have:=congrArg GQ.re e
 revert this
 show (gadd (gmul (gint 0 0) p) (gint 1 0)).re≠0
 simp only [gint10,g00,g0,gmul,gadd]
 grind
theorem geq_self2 (x y:R4):(x.eq x&&(y.eq y&&true))=true:=geq_self x y
abbrev OFN:List (Nat × Nat):=[(9,5007004005008),(15,16),(20,11)]
abbrev a3 (p q r:Rw):SV:=.one (.a (lsX (p.C++q.C++r.C)))
abbrev tB (t:Bool):SV:=.one (.c (.b (.v (.bool t))))
abbrev nI (k:Int):SC:=.c (.b (.v (.int .i64 k)))
section
variable {p q r s u v:Pt}
def of6E (z:P6 p q r s u v FitP):List (Ev Tryz.prog):=[(sSpotP p z.1).e,(sSpotP s z.2.2.2.1).e,(sSpotP q z.2.1).e,(sSpotP u z.2.2.2.2.1).e,(sSpotP r z.2.2.1).e,(sSpotP v z.2.2.2.2.2).e]
def twE {t1 t2 t3 t4 t5 t6:Bool} (h1:ptB p q=t1) (h2:ptB s u=t2) (h3:ptB q r=t3) (h4:ptB u v=t4) (h5:ptB r p=t5) (h6:ptB v s=t6):List (Ev Tryz.prog) :=
 eqEvPt h1::(bif t1 then [] else eqEvPt h2::(bif t2 then [] else eqEvPt h3::(bif t3 then [] else eqEvPt h4::(bif t4 then [] else eqEvPt h5::(bif t5 then [] else [eqEvPt h6])))))
abbrev KF:Nat:=1024
theorem of1z (z:P6 p q r s u v FitP) (h:Six p q r s u v):MSz (dsz (csz KF)) (mcha p q r):=mcha_sz z.1.sz z.2.1.sz z.2.2.1.sz (by decide) h.r1
theorem of2z (z:P6 p q r s u v FitP) (h:Six p q r s u v):MSz (dsz (csz KF)) (mcha s u v):=mcha_sz z.2.2.2.1.sz z.2.2.2.2.1.sz z.2.2.2.2.2.sz (by decide) h.r2
theorem of3z (z:P6 p q r s u v FitP) (t:Bool) (h:Six p q r s u v):MSz (dsz (bsz 1 (dsz (csz KF)))) (mcmp (mid t) (mcha p q r)):=mcmp_sz (mid_sz t (k:=1)) (of1z z h) (h.r3 t)
theorem of4z (z:P6 p q r s u v FitP) (h:Six p q r s u v):MSz (dsz (dsz (csz KF))) (minv (mcha s u v)):=minv_sz (of2z z h) h.r4
theorem of5z (z:P6 p q r s u v FitP) (t:Bool) (h:Six p q r s u v):MSz KM (mof p q r s u v t):=(mcmp_sz (of4z z h) (of3z z t h) (h.r5 t)).mono (by decide)
theorem mof_nrm (t:Bool) (h:Six p q r s u v):Nrm (mof p q r s u v t):=Nrm.cmp (h.r4.mnorm) (h.r3 t).mnorm
set_option maxHeartbeats 4000000 in
noncomputable def sOf3 (z:P6 p q r s u v FitP) (t:Bool) (h:Six p q r s u v):Spec Tryz.prog :=
 Spec.auto Tryz.call83 [a3 p.w q.w r.w,a3 s.w u.w v.w,tB t] [] (.tup [.a (lsX (maC (mof p q r s u v t))),nI (maK (mof p q r s u v t))]) []
  (of6E z++twE (ptB_ne' h.a) (ptB_ne' h.d) (ptB_ne' h.b) (ptB_ne' h.e) (ptB_ne' h.c) (ptB_ne' h.f) ++
   [sStill.e,(sChaR (z.2.2.2.1.sz.mono (by decide)) (z.2.2.2.2.1.sz.mono (by decide)) (z.2.2.2.2.2.sz.mono (by decide)) h.r2).e,(sUndoR ((of2z z h).mono (by decide)) h.r2.mnorm).e,
    (sChaR (z.1.sz.mono (by decide)) (z.2.1.sz.mono (by decide)) (z.2.2.1.sz.mono (by decide)) h.r1).e,(sBehR ((mid_sz t (k:=1)).mono (by decide)) ((of1z z h).mono (by decide)) (h.r3 t)).e,
    (sBehR ((of4z z h).mono (by decide)) ((of3z z t h).mono (by decide)) (h.r5 t)).e,(sToldN (of5z z t h) (mof_nrm t h)).e]) OFN 1200 Tryz.func83 hmA (by kernel_rfl) (fun β=>by kernel_rfl)
end
end Go.Proofs.YtdiemgedlfnlmaaGreat.Y
end
