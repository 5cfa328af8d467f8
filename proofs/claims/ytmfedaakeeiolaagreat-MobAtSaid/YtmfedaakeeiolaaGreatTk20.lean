/- TxB, MoD, Wks, MkB, LsA, LsR, LsW, LsB, LsO. -/
import Derived.Deep.MidRow
import Derived.Deep.Upon
import Derived.Test.YtmfedaakeeiolaaGreatTk19
set_option linter.unnecessarySimpa false
set_option linter.unusedVariables false
set_option linter.unusedSimpArgs false
section
namespace Go.Proofs.YtmfedaakeeiolaaGreat
theorem mag_1:mag 1=⟨#[1]⟩:=by unfold mag; rw [led_pos 1 (by decide),led_zero]; rfl
theorem mag_2:mag 2=⟨#[2]⟩:=by unfold mag; rw [led_pos 2 (by decide),led_zero]; rfl
theorem mag_0:mag 0=⟨#[]⟩:=by unfold mag; rw [led_zero]; rfl
theorem dig_1:dig 1=[1]:=by rw [dig_pos 1 (by decide),dig_zero]
theorem dig_2:dig 2=[2]:=by rw [dig_pos 2 (by decide),dig_zero]
end Go.Proofs.YtmfedaakeeiolaaGreat
namespace Go.Proofs.YtmfedaakeeiolaaGreat.Y
open Go Go.RowKit
set_option maxRecDepth 100000
def WR (xs:List Nat) (w:World) (g:Pl):Prop:=(∀ c,¬ g.F c)∧Words w (.slice (g.v 0) xs.length (g.c 0)) xs
theorem wr_stable (xs:List Nat):Stable (WR xs) :=
 ⟨fun w g ⟨h,_⟩ c hc=>(h c hc).elim,fun w w' g ⟨h,k⟩ hb=>⟨h,k.below hb⟩,fun w w' g b o m n ⟨h,k⟩ hs ht _=>⟨h,Words.touchN k hs ht⟩⟩
def wrT (xs:List Nat):Thing:=thing (WR xs) (wr_stable xs)
def wPl (A:Option Addr) (c:Nat):Pl:=⟨0,fun _=>A,fun _=>c,fun _=>False,fun _=>undef⟩
theorem words_ok {s:ByteArray} {n:Nat} {xs:List Nat} (hs:s=mag n) (hm:s.size≤4294967296) (hx:dig n=xs) (β:Env) (w:World) :
  Calls Tryz.prog 259 #[.string s] w fun e w'=>∃ ys:List Pl,freshS β w 0 ys∧e=.returned ((SV.one (.c (.b (.y 0 0 xs.length)))).den (extE β 0 ys))∧newHold w' [wrT xs] ys∧Below w.heap.size w w':=by
 refine (words_any s n hs hm).mono fun e w' ⟨A,c,he,h1,h2⟩=>⟨[wPl A c],fun x hx c hc=>?_,?_,⟨⟨fun _ h=>h,?_⟩,trivial⟩,h2⟩
 · rw [List.mem_singleton.1 hx] at hc; exact hc.elim
 · rw [he,hx]; rfl
 · rw [hx] at h1; exact h1
def sWords {s:ByteArray} {n:Nat} {xs:List Nat} (hs:s=mag n) (hm:s.size≤4294967296) (hx:dig n=xs) {l:Nat} (hl:xs.length=l):Spec Tryz.prog :=
 ⟨259,Tryz.call259,[.one (.c (.b (.v (.string s))))],[],.one (.c (.b (.y 0 0 l))),[wrT xs],fun β w _=>by rw [← hl]; exact words_ok hs hm hx β w,by kernel_rfl⟩
theorem small_ok {xs:List Nat} {d:Nat} (h1:xs.length≤17179869184) (hd0:0<d) (hd:d<4294967296) {ys:List Nat} (hq:dig (val xs/d)=ys) {r:Nat} (hr:val xs % d=r) (β:Env) (w:World) (hh:(wrT xs).D w (β 0)) :
  Calls Tryz.prog 372 #[.slice ((β 0).v 0) xs.length ((β 0).c 0),.int .u64 (d:Int)] w fun e w'=>∃ zs:List Pl,freshS β w 1 zs∧e=.returned ((SV.tup [.c (.b (.y 1 0 ys.length)),.c (.b (.v (.int .u64 (r:Int))))]).den (extE β 1 zs))∧newHold w' [wrT ys] zs∧Below w.heap.size w w':=by
 refine (small_any hh.2 h1 d hd0 hd).mono fun e w' ⟨v,he,h2,h3⟩=>?_
 rw [hq] at h2
 obtain ⟨A,c,rfl,hc⟩:=h2.shape
 refine ⟨[wPl A c],fun x hx c hc=>?_,?_,⟨⟨fun _ h=>h,h2⟩,trivial⟩,h3⟩
 · rw [List.mem_singleton.1 hx] at hc; exact hc.elim
 · rw [he,hr]; rfl
def sSmall {xs:List Nat} {d:Nat} (h1:xs.length≤17179869184) (hd0:0<d) (hd:d<4294967296) {ys:List Nat} (hq:dig (val xs/d)=ys) {r:Nat} (hr:val xs % d=r) {l m:Nat} (hl:xs.length=l) (hm:ys.length=m):Spec Tryz.prog :=
 ⟨372,Tryz.call372,[.one (.c (.b (.y 0 0 l))),.one (.c (.b (.v (.int .u64 (d:Int)))))],[wrT xs],.tup [.c (.b (.y 1 0 m)),.c (.b (.v (.int .u64 (r:Int))))],[wrT ys],fun β w hh=>by
  rw [← hl,← hm]; exact small_ok h1 hd0 hd hq hr β w (hh 0 _ rfl),by kernel_rfl⟩
theorem u8_some:(Tryz.prog.info? 5).isSome=true:=by kernel_rfl
noncomputable def appB:AppT Tryz.prog :=
 ⟨343,5,(Tryz.prog.info? 5).get u8_some,.int .u8 0,1,1,Tryz.underlying343,(Option.some_get u8_some).symm,by kernel_rfl,by kernel_rfl,by kernel_rfl,rfl,by decide,by decide⟩
abbrev tS (s:ByteArray):SV:=.one (.c (.b (.v (.string s))))
abbrev tW (b:Bool) (s:ByteArray):SV:=.one (.a [.b (.v (.bool b)),.b (.v (.string s))])
def smE1:Ev Tryz.prog:=(sSmall (xs:=[1]) (d:=1000000000) (by decide) (by decide) (by decide) (ys:=[]) (by rw [show val [1]/1000000000=0 by decide]; exact dig_zero) (r:=1) (by decide) (l:=1) rfl (m:=0) rfl).e
def smE2:Ev Tryz.prog:=(sSmall (xs:=[2]) (d:=1000000000) (by decide) (by decide) (by decide) (ys:=[]) (by rw [show val [2]/1000000000=0 by decide]; exact dig_zero) (r:=2) (by decide) (l:=1) rfl (m:=0) rfl).e
noncomputable def sTxtM1:Spec Tryz.prog:=Spec.auto Tryz.call339 [tW true ⟨#[1]⟩] [] (tS ⟨#[45,49]⟩) []
 [(sWords (s:=⟨#[1]⟩) (n:=1) mag_1.symm (by decide) dig_1 (l:=1) rfl).e,smE1,.app appB,.app appB] [] 3000 Tryz.func339 hmA (by kernel_rfl) (fun β=>by kernel_rfl)
noncomputable def sTxt2:Spec Tryz.prog:=Spec.auto Tryz.call339 [tW false ⟨#[2]⟩] [] (tS ⟨#[50]⟩) []
 [(sWords (s:=⟨#[2]⟩) (n:=2) mag_2.symm (by decide) dig_2 (l:=1) rfl).e,smE2,.app appB] [] 3000 Tryz.func339 hmA (by kernel_rfl) (fun β=>by kernel_rfl)
end Go.Proofs.YtmfedaakeeiolaaGreat.Y
end
section
namespace Go.Proofs.YtmfedaakeeiolaaGreat.Y
open Go Go.RowKit
set_option maxRecDepth 100000
noncomputable def sIsA {m n:MQ} (h:MSz KE m) (k:MSz KE n) (ht:m.t=false) (hu:n.t=false) (h0:gzero (gsub m.a n.a)=false):Spec Tryz.prog :=
 ⟨269,Tryz.call269,[mV 0 m,mV 8 n],mM m++mM n,.one (.c (.b (.v (.bool false)))),[],fun β w hh=>by
  obtain ⟨a,b,c,d,t⟩:=m
  obtain ⟨a',b',c',d',t'⟩:=n
  cases ht
  cases hu
  exact spec_auto (args:=[mV 0 ⟨a,b,c,d,false⟩,mV 8 ⟨a',b',c',d',false⟩]) (obs:=mM ⟨a,b,c,d,false⟩++mM ⟨a',b',c',d',false⟩) (evs:=[(sSame (z:=a) (w:=a') h.a k.a h0).e]) (Ns:=[]) (m:=400) Tryz.func269 hmA (fun β=>by kernel_rfl) (by kernel_rfl) β w hh,by kernel_rfl⟩
theorem still_sz {t:Bool}:MSz KE (mstill t):=⟨(GSz.int (by decide) (by decide)).mono (by decide),g0_sz (by decide),g0_sz (by decide),(GSz.int (by decide) (by decide)).mono (by decide)⟩
noncomputable def sOrder2 {m:MQ} (h:MSz 1024 m) (ht:m.t=false) (h0:gzero (gsub m.a (gint 1 0))=false) (h1:gzero (gmul (gadd m.a m.d) (gadd m.a m.d))=true):Spec Tryz.prog :=
 ⟨139,Tryz.call139,[mV 0 m],mM m,.one (.c (.b (.v (.int .i64 2)))),[],fun β w hh=>by
  obtain ⟨a,b,c,d,t⟩:=m
  cases ht
  have ha:GSz KE (gadd a d):=(h.a.add h.d).mono (by decide)
  exact spec_auto (args:=[mV 0 ⟨a,b,c,d,false⟩]) (obs:=mM ⟨a,b,c,d,false⟩) (evs:=[sStill.e,(sIsA (m:=⟨a,b,c,d,false⟩) (n:=mstill false) (h.mono (by decide)) still_sz rfl rfl h0).e,(sAdd (h.a.mono (by decide)) (h.d.mono (by decide))).e,mulE ha ha,(sZero (z:=gmul (gadd a d) (gadd a d)) h1).e]) (Ns:=[(1,4)]) (m:=800) Tryz.func139 hmA (fun β=>by kernel_rfl) (by kernel_rfl) β w hh,by kernel_rfl⟩
noncomputable def sOrd2 {m:MQ} (h:MayQ m) (ht:m.t=false) (h0:gzero (gsub m.a (gint 1 0))=false) (h1:gzero (gmul (gadd m.a m.d) (gadd m.a m.d))=true):Spec Tryz.prog :=
 Spec.auto Tryz.call25 [.one (.a (mCl m))] [] (.tup [.c (.b (.v (.int .i64 2))),.c (.b (.v (.int .i64 0)))]) []
  [(sOpenYes h).e,(sOrder2 (fitM_sz h.1) ht h0 h1).e] [] 800 Tryz.func25 hmA (by kernel_rfl) (fun β=>by kernel_rfl)
abbrev tF (b:Bool) (s t:ByteArray):SV:=.one (.a [.b (.v (.bool b)),.b (.v (.string s)),.b (.v (.bool false)),.b (.v (.string t))])
theorem whole1:wholeV 1=.agg #[.bool false,.string ⟨#[1]⟩]:=by unfold wholeV; rw [show (1:Int).natAbs=1 from rfl,mag_1]; rfl
def yWOf1:Ev Tryz.prog:=.ret 112 Tryz.call112 #[.int .i64 1] (.agg #[.bool false,.string ⟨#[1]⟩]) (fun w=>by rw [← whole1]; exact rof_any (by decide))
noncomputable def sTxtH:Spec Tryz.prog:=Spec.auto Tryz.call265 [tF true ⟨#[1]⟩ ⟨#[2]⟩] [] (tS ⟨#[45,49,47,50]⟩) []
 [yWOf1,eqEvW false false ⟨#[2]⟩ ⟨#[1]⟩ false (by decide +kernel),sTxtM1.e,sTxt2.e] [(1,4),(3,9)] 800 Tryz.func265 hmA (by kernel_rfl) (fun β=>by kernel_rfl)
abbrev svN0 (k:Int):SV:=.one (.c (.b (.v (.int .i64 k))))
def sSgM:Spec Tryz.prog:=Spec.auto Tryz.call256 [tW true ⟨#[1]⟩] [] (svN0 (-1)) [] [] [] 400 Tryz.func256 hmA (by kernel_rfl) (fun β=>by kernel_rfl)
def sSg0:Spec Tryz.prog:=Spec.auto Tryz.call256 [tW false ⟨#[]⟩] [] (svN0 0) [] [] [] 400 Tryz.func256 hmA (by kernel_rfl) (fun β=>by kernel_rfl)
def sSg3M:Spec Tryz.prog:=Spec.auto Tryz.call122 [tF true ⟨#[1]⟩ ⟨#[2]⟩] [] (svN0 (-1)) [] [sSgM.e] [] 400 Tryz.func122 hmA (by kernel_rfl) (fun β=>by kernel_rfl)
def sSg30:Spec Tryz.prog:=Spec.auto Tryz.call122 [tF false ⟨#[]⟩ ⟨#[1]⟩] [] (svN0 0) [] [sSg0.e] [] 400 Tryz.func122 hmA (by kernel_rfl) (fun β=>by kernel_rfl)
noncomputable def sRealNo:Spec Tryz.prog:=Spec.auto Tryz.call266 [.one (.a [.b (.v (.bool false)),.b (.v (.string ⟨#[]⟩)),.b (.v (.bool false)),.b (.v (.string ⟨#[1]⟩)),.b (.v (.bool true)),.b (.v (.string ⟨#[1]⟩)),.b (.v (.bool false)),.b (.v (.string ⟨#[2]⟩))])] [] (.one (.c (.b (.v (.bool false))))) []
 [sSg3M.e] [] 400 Tryz.func266 hmA (by kernel_rfl) (fun β=>by kernel_rfl)
noncomputable def sTxtG:Spec Tryz.prog:=Spec.auto Tryz.call133 [.one (.a [.b (.v (.bool false)),.b (.v (.string ⟨#[]⟩)),.b (.v (.bool false)),.b (.v (.string ⟨#[1]⟩)),.b (.v (.bool true)),.b (.v (.string ⟨#[1]⟩)),.b (.v (.bool false)),.b (.v (.string ⟨#[2]⟩))])] [] (tS ⟨#[45,49,47,50,105]⟩) []
 [sTxtH.e,sRealNo.e,sSg30.e] [] 800 Tryz.func133 hmA (by kernel_rfl) (fun β=>by kernel_rfl)
end Go.Proofs.YtmfedaakeeiolaaGreat.Y
end
section
namespace Go.Proofs.YtmfedaakeeiolaaGreat
theorem jz_det:gzero (mdet ⟨gint 0 0,gint 2 0,gint 2 0,gint 0 0,false⟩)=false:=by kernel_rfl
def mJ:MQ:=⟨gint 0 0,gint 1 0,gint 1 0,gint 0 0,false⟩
theorem j_norm:mnorm ⟨gint 0 0,gint 2 0,gint 2 0,gint 0 0,false⟩=mJ:=mq_ext (gq_lit (by kernel_rfl) (by kernel_rfl)) (gq_lit (by kernel_rfl) (by kernel_rfl)) (gq_lit (by kernel_rfl) (by kernel_rfl)) (gq_lit (by kernel_rfl) (by kernel_rfl)) rfl
theorem j_inv:minv mJ=mJ:=mq_ext (gq_lit (by kernel_rfl) (by kernel_rfl)) (gq_lit (by kernel_rfl) (by kernel_rfl)) (gq_lit (by kernel_rfl) (by kernel_rfl)) (gq_lit (by kernel_rfl) (by kernel_rfl)) rfl
theorem j_fit:FitM mJ:=⟨fit_int (by decide) (by decide),fit_int (by decide) (by decide),fit_int (by decide) (by decide),fit_int (by decide) (by decide)⟩
theorem z2_fit:FitM ⟨gint 0 0,gint 2 0,gint 2 0,gint 0 0,false⟩:=⟨fit_int (by decide) (by decide),fit_int (by decide) (by decide),fit_int (by decide) (by decide),fit_int (by decide) (by decide)⟩
def gH:GQ:=⟨Rat.divInt 0 1,Rat.divInt (-1) 2⟩
theorem j_half:msend mJ (.fin (gint 0 2)) false=.fin gH:=congrArg Pt.fin (gq_lit (by kernel_rfl) (by kernel_rfl))
theorem j_msD:gzero (msD mJ (.fin (gint 0 2)))=false:=by kernel_rfl
theorem h_parts:gH.re.num=0∧gH.re.den=1∧gH.im.num = -1∧gH.im.den=2:=by decide +kernel
theorem h_fit:FitP (.fin gH):=fit_small (by rw [h_parts.1]; decide) (by rw [h_parts.2.1]; decide) (by rw [h_parts.2.2.1]; decide) (by rw [h_parts.2.2.2]; decide)
theorem h_cells:paC (.fin gH)=[.b (.v (.bool false)),.b (.v (.bool false)),.b (.v (.string ⟨#[]⟩)),.b (.v (.bool false)),.b (.v (.string ⟨#[1]⟩)),.b (.v (.bool true)),.b (.v (.string ⟨#[1]⟩)),.b (.v (.bool false)),.b (.v (.string ⟨#[2]⟩))]:=by
 rw [paC_raw,(pa_fit h_fit).1,(pa_fit h_fit).2.1,(pa_fit h_fit).2.2]
 show rawC false (fR gH.re) (fR gH.im)=_
 unfold fR
 rw [h_parts.1,h_parts.2.1,h_parts.2.2.1,h_parts.2.2.2,show (0:Int).natAbs=0 from rfl,show (-1:Int).natAbs=1 from rfl,mag_0,mag_1,mag_2]
 rfl
def mK:MQ:=⟨gint 0 0,gint (-2) 0,gint 1 0,gint (-2) 0,false⟩
theorem k_of:mof (pI 0 0) (pI 1 0) (pI 2 0) (pI 1 0) (pI 2 0) .inf false=mK:=mq_ext (gq_lit (by kernel_rfl) (by kernel_rfl)) (gq_lit (by kernel_rfl) (by kernel_rfl)) (gq_lit (by kernel_rfl) (by kernel_rfl)) (gq_lit (by kernel_rfl) (by kernel_rfl)) rfl
theorem k_fit:FitM mK:=⟨fit_int (by decide) (by decide),fit_int (by decide) (by decide),fit_int (by decide) (by decide),fit_int (by decide) (by decide)⟩
theorem k_six:Six (pI 0 0) (pI 1 0) (pI 2 0) (pI 1 0) (pI 2 0) .inf:=⟨pI_ne (by decide),pI_ne (by decide),pI_ne (by decide),pI_ne (by decide),(fun e=>by cases e),(fun e=>by cases e)⟩
theorem k_p6:P6 (pI 0 0) (pI 1 0) (pI 2 0) (pI 1 0) (pI 2 0) .inf FitP:=⟨pI_fit (by decide) (by decide),pI_fit (by decide) (by decide),pI_fit (by decide) (by decide),pI_fit (by decide) (by decide),pI_fit (by decide) (by decide),trivial⟩
end Go.Proofs.YtmfedaakeeiolaaGreat
namespace Go.Proofs.YtmfedaakeeiolaaGreat.Y
open Go Go.RowKit
set_option maxRecDepth 100000
theorem j_may:MayQ mJ:=⟨j_fit,by kernel_rfl,.inl (by kernel_rfl)⟩
abbrev q2 (n m:Int):Pt:=.fin (gint n m)
noncomputable def wkMake:Spec Tryz.prog :=
 (sMake (m:=⟨gint 0 0,gint 2 0,gint 2 0,gint 0 0,false⟩) z2_fit jz_det).as [gS (gint 0 0),gS (gint 2 0),gS (gint 2 0),gS (gint 0 0),tB' false] (.tup [.a (lsX (mC mJ)),nI' 0]) rfl (by
  show SV.tup [.a (lsX (maC (mnorm ⟨gint 0 0,gint 2 0,gint 2 0,gint 0 0,false⟩))),nI' (maK (mnorm ⟨gint 0 0,gint 2 0,gint 2 0,gint 0 0,false⟩))]=_
  rw [j_norm,(maC_fit j_fit).1,(maC_fit j_fit).2])
noncomputable def kwAt:Spec Tryz.prog :=
 (sAt j_may (p:=q2 0 2) (fit_int (by decide) (by decide)) j_msD).as [.one (.a (mCl mJ)),.one (.a (lsX (q2 0 2).w.C))] (.tup [.a [.b (.v (.bool false)),.b (.v (.bool false)),.b (.v (.string ⟨#[]⟩)),.b (.v (.bool false)),.b (.v (.string ⟨#[1]⟩)),.b (.v (.bool true)),.b (.v (.string ⟨#[1]⟩)),.b (.v (.bool false)),.b (.v (.string ⟨#[2]⟩))],nI' 0]) rfl (by
  show SV.tup [.a (lsX (paC (msend mJ (q2 0 2) false))),nI' (paK (msend mJ (q2 0 2) false))]=_
  rw [j_half,paK_fit h_fit,h_cells])
noncomputable def kInv:Spec Tryz.prog :=
 (sInv j_may).as [.one (.a (mCl mJ))] (.tup [.a (lsX (mC mJ)),nI' 0]) rfl (by
  show SV.tup [.a (lsX (maC (minv mJ))),nI' (maK (minv mJ))]=_
  rw [j_inv,(maC_fit j_fit).1,(maC_fit j_fit).2])
noncomputable def kOrd:Spec Tryz.prog:=sOrd2 j_may rfl (by kernel_rfl) (by kernel_rfl)
noncomputable def kOf:Spec Tryz.prog :=
 (sOf3 k_p6 false k_six).as [a3 (q2 0 0).w (q2 1 0).w (q2 2 0).w,a3 (q2 1 0).w (q2 2 0).w Pt.inf.w,tB false] (.tup [.a (lsX (mC mK)),nI' 0]) rfl (by
  show SV.tup [.a (lsX (maC (mof (q2 0 0) (q2 1 0) (q2 2 0) (q2 1 0) (q2 2 0) .inf false))),nI' (maK (mof (q2 0 0) (q2 1 0) (q2 2 0) (q2 1 0) (q2 2 0) .inf false))]=_
  rw [k_of,(maC_fit k_fit).1,(maC_fit k_fit).2])
def eqEvM1 (a a' b b' c c' d d':R4) (t:Bool):Ev Tryz.prog :=
 eqEv 39 (Go.Proofs.YtmfedaakeeiolaaGreat.mV a a' b b' c c' d d' t) (Go.Proofs.YtmfedaakeeiolaaGreat.mV a a' b b' c c' d d' t) true (by kernel_rfl) (fun w=>by
  have h:=eqM (w:=w) 9995 a a' b b' c c' d d' t a a' b b' c c' d d' t
  rw [geq_self,geq_self,geq_self,geq_self,show (t==t)=true from beq_self_eq_true t] at h
  exact h)
def eqMC1 (m:MQ):Ev Tryz.prog:=eqEvM1 (fR m.a.re) (fR m.a.im) (fR m.b.re) (fR m.b.im) (fR m.c.re) (fR m.c.im) (fR m.d.re) (fR m.d.im) m.t
noncomputable def nX (k:Int):Ev Tryz.prog:=(Spec.ofX (sNum8 k) rfl rfl).e
noncomputable def inX (n m:Int) (hn : -9223372036854775808≤n∧n≤9223372036854775807:=by decide) (hm : -9223372036854775808≤m∧m≤9223372036854775807:=by decide):Ev Tryz.prog:=(Spec.ofX (sIn8 n m hn hm) rfl rfl).e
noncomputable def atX (n m:Int) (hn : -9223372036854775808≤n∧n≤9223372036854775807:=by decide) (hm : -9223372036854775808≤m∧m≤9223372036854775807:=by decide):Ev Tryz.prog:=(Spec.ofX (sAt8 n m hn hm) rfl rfl).e
noncomputable def sWorks:Spec Tryz.prog :=
 Spec.auto Tryz.call23 [] [] (.one (.c (.b (.v (.bool true))))) []
  [inX 0 0,inX 2 0,inX 2 0,inX 0 0,wkMake.e,atX 0 2,kwAt.e,kInv.e,kOrd.e,atX 0 0,atX 1 0,atX 2 0,atX 1 0,atX 2 0,kOf.e,
   nX 0,nX 0,sTxtG.e,nX 0,eqMC1 mJ,nX 0,nX 0,inX 0 0,inX (-2) 0,inX 1 0,inX (-2) 0,eqMC1 mK] [(2,2007008),(6,48)] 1200 Tryz.func23 hmA (by kernel_rfl) (fun β=>by kernel_rfl)
end Go.Proofs.YtmfedaakeeiolaaGreat.Y
end
section
namespace Go.Proofs.YtmfedaakeeiolaaGreat.Y
open Go Go.RowKit
set_option maxRecDepth 100000
structure Lg4 (a b c d:Gn) (r:Bool):Prop where
 is:∃ x0 y0 x1 y1 x2 y2 x3 y3:Bool,LgF a.x x0∧LgF a.y y0∧LgF b.x x1∧LgF b.y y1∧LgF c.x x2∧LgF c.y y2∧LgF d.x x3∧LgF d.y y3∧(x0||(y0||(x1||(y1||(x2||(y2||(x3||y3)))))))=r
theorem Lg4.all (a b c d:Gn):∃ r,Lg4 a b c d r:=by
 obtain ⟨x0,h0⟩:=LgF.all a.x
 obtain ⟨y0,k0⟩:=LgF.all a.y
 obtain ⟨x1,h1⟩:=LgF.all b.x
 obtain ⟨y1,k1⟩:=LgF.all b.y
 obtain ⟨x2,h2⟩:=LgF.all c.x
 obtain ⟨y2,k2⟩:=LgF.all c.y
 obtain ⟨x3,h3⟩:=LgF.all d.x
 obtain ⟨y3,k3⟩:=LgF.all d.y
 exact ⟨_,⟨x0,y0,x1,y1,x2,y2,x3,y3,h0,k0,h1,k1,h2,k2,h3,k3,rfl⟩⟩
def sLong4 (T:TypeId) (a b c d:Gn) {r:Bool} (h:Lg4 a b c d r):BSpec Tryz.prog :=
 ⟨130,Tryz.call130,lgA,lgCells a.x a.y b.x b.y c.x c.y d.x d.y,T,.bool r,fun β w hh=>by
  obtain ⟨x0,y0,x1,y1,x2,y2,x3,y3,h0,k0,h1,k1,h2,k2,h3,k3,rfl⟩:=h.is
  exact long4_ok h0 k0 h1 k1 h2 k2 h3 k3 β w hh,by kernel_rfl,fun _=>rfl⟩
def RwD (sz n:Nat) (L:Nat→List Lf) (w:World) (g:Pl):Prop :=
 (n=0∧∀ c,¬ g.F c)∨(0<n∧∃ b o cs t fr,(∀ m,g.v m=some ⟨b,o+m,none⟩)∧(∀ c,g.F c↔c=b)∧w.heap[b]?=some (.cells cs t fr)∧∀ j,j<n→w.rangeAt b (o+j*sz) ((L j).map (Lf.den idE)))
theorem RwD.heap {sz n:Nat} {L:Nat→List Lf} {w w':World} {g:Pl} (h:RwD sz n L w g) (k:∀ b,g.F b→w'.heap[b]?=w.heap[b]?):RwD sz n L w' g:=by
 rcases h with h | ⟨h0,b,o,cs,t,fr,h1,h2,h3,h4⟩
 · exact .inl h
 · have e:=k b ((h2 b).2 rfl)
   refine .inr ⟨h0,b,o,cs,t,fr,h1,h2,by rw [e]; exact h3,fun j hj i v hv=>?_⟩
   have:=h4 j hj i v hv
   rw [cell_of_row _ _ _ _ _ _ h3] at this
   rw [cell_of_row _ _ _ _ _ _ (by rw [e]; exact h3)]
   exact this
theorem RwD.lt {sz n:Nat} {L:Nat→List Lf} {w:World} {g:Pl} (h:RwD sz n L w g) (c:Nat) (hc:g.F c):c<w.heap.size:=by
 rcases h with h | ⟨h0,b,o,cs,t,fr,h1,h2,h3,h4⟩
 · exact absurd hc (h.2 c)
 · rw [(h2 c).1 hc]
   exact heap_some_lt h3
theorem lsRw_stable (sz n:Nat) (L:Nat→List Lf):Stable (RwD sz n L) :=
 ⟨fun w g h c hc=>h.lt c hc,fun w w' g h k=>h.heap fun b hb=>k.block b (h.lt b hb),
  fun w w' g b o m s h hs ht hF=>h.heap fun c hc=>ht.block c (h.lt c hc) (fun e=>hF (e▸hc))⟩
def rwT (sz n:Nat) (L:Nat→List Lf):Thing:=thing (RwD sz n L) (lsRw_stable sz n L)
def lsYOf:SV→Nat
 | .one (.c (.b (.y k _ _)))=>k
 | _=>0
def lsZOf:SV→Nat
 | .one (.c (.b (.z k _)))=>k
 | _=>0
theorem ls_ix {T:TypeId} (hu:Tryz.prog.underlying T=some (.slice (Tryz.prog.elem T))) {sz:Nat} (hs:(Tryz.prog.info? (Tryz.prog.elem T)).map (·.size)=some sz) {n N j:Nat} {L:Nat→List Lf} (hj:j<n) (hN:n≤N) (k:Nat) (x y:Operand) (β:Env) (w:World) (h:holdsAll β w [(k,(rwT sz N L).ob)]) (ρ:Operand→Value) (o:Oper) (ho:o.op=.indexAddr T x y)
  (hx:(Op.indexAddr T x y).operands.toList.map ρ=[.slice ((β k).v 0) n ((β k).c 0),.int .i64 (j:Int)]):∃ ys w',fresh β w [(k,(rwT sz N L).ob)] ys∧(execOp ρ o).run Tryz.prog w=.ok (.value ((SV.one (.c (.b (.z k (j*sz))))).den (extE β 0 ys))) w'∧newHold w' [] ys∧Below w.heap.size w w':=by
 have h1:RwD sz N L w (β k):=h _ (List.mem_singleton.2 rfl)
 have h3:ρ x=.slice ((β k).v 0) n ((β k).c 0)∧ρ y=.int .i64 (j:Int):=by simpa [Op.operands] using hx
 rcases h1 with h1 | ⟨h0,b,of,cs,t,fr,h1,h2,h4,h5⟩
 · omega
 refine ⟨[],w,(fun _ h=>by cases h),?_,trivial,Below.refl _ _⟩
 unfold execOp
 rw [ho]
 dsimp only
 rw [h3.1,h3.2,h1 0]
 have e:((SV.one (.c (.b (.z k (j*sz))))).den (extE β 0 []))=.pointer (some ⟨b,of+j*sz,none⟩):=by
  show Value.pointer ((β k).v (j*sz))=_
  rw [h1]
 rw [e]
 have hz:((sizeOf (Tryz.prog.elem T)).run Tryz.prog w)=.ok sz w:=by
  cases hq:Tryz.prog.info? (Tryz.prog.elem T) with
  | none=>simp [hq] at hs
  | some i =>
   have hs:i.size=sz:=by simpa [hq] using hs
   simp [sizeOf,typeInfo,hq,hs]
 have h6:=run_indexAt_slice (P:=Tryz.prog) (w:=w) T ⟨b,of,none⟩ n ((β k).c 0) .i64 (j:Int) hu
 rw [if_pos ⟨by omega,by omega⟩,hz] at h6
 simp only [Result.andThen_ok,Int.toNat_natCast,Addr.add_mid] at h6
 simp [go_sem,Nat.add_zero,h6]
def eIx {T:TypeId} (hu:Tryz.prog.underlying T=some (.slice (Tryz.prog.elem T))) {sz:Nat} (hs:(Tryz.prog.info? (Tryz.prog.elem T)).map (·.size)=some sz) {n N j:Nat} (L:Nat→List Lf) (hj:j<n) (hN:n≤N):Ev Tryz.prog:=.dyn (fun o _ _=>match o.op with
 | .indexAddr t _ _=>Nat.beq t T
 | _=>false) fun o xs _=>match o.op with
 | .indexAddr _ x y=>lit (lsYOf (xs.getD 0 undefS)) fun k=>.rd (o.dst.getD 0) (.indexAddr T x y) (fun β=>[.slice ((β k).v 0) n ((β k).c 0),.int .i64 (j:Int)]) [(k,(rwT sz N L).ob)] 0 (.one (.c (.b (.z k (j*sz))))) [] (fun β w h ρ o ho hx=>ls_ix hu hs hj hN k x y β w h ρ o ho hx)
 | _=>.cut
theorem ls_ld {T:TypeId} {d:TypeDesc} (hu:Tryz.prog.underlying T=some d) (hd:d.isRow=true) {sz:Nat} {n j:Nat} {L:Nat→List Lf} (hs:(Tryz.prog.info? T).map (·.size)=some (L j).length) (hL:∀ β,(L j).map (Lf.den β)=(L j).map (Lf.den idE)) (hj:j<n) (k:Nat) (x:Operand) (β:Env) (w:World) (h:holdsAll β w [(k,(rwT sz n L).ob)]) (ρ:Operand→Value) (o:Oper) (ho:o.op=.load T x)
  (hx:(Op.load T x).operands.toList.map ρ=[.pointer ((β k).v (j*sz))]):∃ ys w',fresh β w [(k,(rwT sz n L).ob)] ys∧(execOp ρ o).run Tryz.prog w=.ok (.value ((SV.one (.a (L j))).den (extE β 0 ys))) w'∧newHold w' [] ys∧Below w.heap.size w w':=by
 have h1:RwD sz n L w (β k):=h _ (List.mem_singleton.2 rfl)
 have h3:ρ x=.pointer ((β k).v (j*sz)):=by simpa [Op.operands] using hx
 rcases h1 with h1 | ⟨h0,b,of,cs,t,fr,h1,h2,h4,h5⟩
 · omega
 refine ⟨[],w,(fun _ h=>by cases h),?_,trivial,Below.refl _ _⟩
 unfold execOp
 rw [ho]
 dsimp only
 rw [h3,h1]
 have h6:=run_loadAt_mid (P:=Tryz.prog) w b (of+j*sz) T ((L j).map (Lf.den idE)) d (h5 j hj) hu hd (by rw [List.length_map]; exact hs)
 have e:((SV.one (.a (L j))).den (extE β 0 []))=.agg ((L j).map (Lf.den idE)).toArray:=by
  show Value.agg ((L j).map (Lf.den (extE β 0 []))).toArray=_
  rw [hL]
 rw [e]
 simp only [Sem.run_bind,h6,Result.andThen_ok]
 rfl
def eLd {T:TypeId} {d:TypeDesc} (hu:Tryz.prog.underlying T=some d) (hd:d.isRow=true) (sz:Nat) {n j:Nat} {L:Nat→List Lf} (hs:(Tryz.prog.info? T).map (·.size)=some (L j).length) (hL:∀ β,(L j).map (Lf.den β)=(L j).map (Lf.den idE)) (hj:j<n):Ev Tryz.prog:=.dyn (fun o xs _=>match o.op with
 | .load t _=>Nat.beq t T
 | _=>false) fun o xs _=>match o.op with
 | .load _ x=>lit (lsZOf (xs.getD 0 undefS)) fun k=>.rd (o.dst.getD 0) (.load T x) (fun β=>[.pointer ((β k).v (j*sz))]) [(k,(rwT sz n L).ob)] 0 (.one (.a (L j))) [] (fun β w h ρ o ho hx=>ls_ld hu hd hs hL hj k x β w h ρ o ho hx)
 | _=>.cut
theorem app_core {P:Program} (A:AppT P) (w:World) (ty:TypeId) {n m:Nat} {xs news:List Value} (old:Option (Nat × Nat)) (v:Value)
  (hold:(old=none∧n=0∧xs=[]∧v=.slice none 0 0)∨∃ b c,old=some (b,c)∧v=.slice (some ⟨b,0,none⟩) n c∧w.ownsRow 0 A.e A.sz v n xs)
  (ad:Addr) (cc:Nat) (hl:news.length=m*A.sz) (hnews:∀ j u,news[j]?=some u→w.cell? (ad.add j)=some u) (h1:∀ u∈news,u.oneCell'=true) (hm:0<m) (h63:n+m≤maxLen) (hb:(n+m)*A.bytes≤140737488355328) :
  ∃ g cap w',(Builtin.append_ #[A.t,A.t] ty #[v,.slice (some ad) m cc]).run P w=.ok (.slice (some ⟨g,0,none⟩) (n+m) cap) w'∧w'.ownsRow 0 A.e A.sz (.slice (some ⟨g,0,none⟩) (n+m) cap) (n+m) (xs++news) ∧
   ((w.heap.size≤g∧Below w.heap.size w w')∨∃ c,old=some (g,c)∧∃ N,Slot w g 0 N∧Touch w w' g 0 N):=by
 have hsmall:n+m≤9223372036854775807:=by simp only [maxLen] at h63; omega
 have grown:∀ (o:Nat),o<n+m→xs.length=n*A.sz →
   (w.drew.alloc (.cells (xs.toArray++news.toArray++Builtin.zeroCells A.z.cells (grownCap w (n+m) o A.e-(n+m))) A.e)).ownsRow 0 A.e A.sz
    (.slice (some ⟨w.heap.size,0,none⟩) (n+m) (grownCap w (n+m) o A.e)) (n+m) (xs++news) ∧
   Below w.heap.size w (w.drew.alloc (.cells (xs.toArray++news.toArray++Builtin.zeroCells A.z.cells (grownCap w (n+m) o A.e-(n+m))) A.e)):=by
  intro o ho hx
  have hge:=grownCap_ge w (n+m) o A.e
  have hcm:grownCap w (n+m) o A.e≤maxLen:=grownCap_le_maxLen w (n+m) o A.e h63
  have hlen:(xs++news).length=(n+m)*A.sz:=by rw [List.length_append,hx,hl,Nat.add_mul]
  refine ⟨⟨hlen,.inr ⟨w.heap.size,_,_,rfl,Nat.zero_le _,heap_alloc_new w.drew _,hge,hcm,?_,?_⟩⟩,⟨rfl,rfl,rfl,by simp,fun k hk=>Below.heap_alloc w.drew _ k hk⟩⟩
  · simp only [Array.size_append,List.size_toArray,size_zeroCells,A.hzs,hx,hl,← Nat.add_mul]
    congr 1
    omega
  · simp only [Array.toList_append,List.append_assoc]
    rw [← List.append_assoc,← hlen]
    exact List.take_left
 rcases hold with ⟨rfl,rfl,rfl,rfl⟩ | ⟨b,c,rfl,rfl,hown⟩
 · obtain ⟨g1,g2⟩:=grown 0 (by omega) (by simp)
   refine ⟨w.heap.size,grownCap w (0+m) 0 A.e,_,?_,g1,.inl ⟨Nat.le_refl _,g2⟩⟩
   have:=run_append_nil (P:=P) w A.t ty A.e A.i A.z A.ht A.hi A.hz ad m cc news (by rw [A.hsize]; exact hl) hnews hm (by omega) (by rw [A.hby]; rw [Nat.zero_add] at hb; omega)
   simpa using this
 · have hown2:=hown
   obtain ⟨hxl,h2⟩:=hown
   rcases h2 with ⟨e,_⟩ | ⟨g,cap,cur,e,_,hh,hnc,hcm,hcs,ht⟩
   · cases e
   injection e with e1 e2 e3
   injection e1 with e1
   injection e1 with e1
   subst e1 e3
   by_cases hroom:n+m≤c
   · have hfit:n*A.i.size+news.length≤cur.size:=by rw [hl,hcs,A.hsize,← Nat.add_mul]; exact Nat.mul_le_mul_right _ hroom
     have hr:=run_append_room (P:=P) w A.t ty A.e A.i A.ht A.hi b n c cur hh ad m cc news (by rw [A.hsize]; exact hl) hnews h1 hroom hfit
     have hsize:(cur.toList.take (n*A.i.size)++news++cur.toList.drop (n*A.i.size+news.length)).toArray.size=cur.size:=by
      simp only [List.size_toArray,List.length_append,List.length_take,List.length_drop,Array.length_toList]
      omega
     refine ⟨b,c,_,hr,⟨by rw [List.length_append,hxl,hl,Nat.add_mul],.inr ⟨b,c,_,rfl,Nat.zero_le _,setRow_heap w b cur _ A.e _ hh,hroom,hcm,by rw [hsize]; exact hcs,?_⟩⟩,.inr ⟨c,rfl,cur.size,⟨cur,A.e,hh,A.he,by omega⟩,?_⟩⟩
     · rw [A.hsize,ht]
       have hlen:(xs++news).length=(n+m)*A.sz:=by rw [List.length_append,hxl,hl,Nat.add_mul]
       rw [← hlen]
       exact List.take_left
     · exact ⟨rfl,rfl,rfl,by simp,fun k hk hne=>setRow_other w _ k _ hne,fun cs2 t2 fr2 h2=>by
        rw [hh] at h2
        obtain ⟨rfl,rfl,rfl⟩:=Obj.cells.inj (Option.some.inj h2)
        refine ⟨_,setRow_heap w _ _ _ _ _ hh,hsize,fun j hj=>?_⟩
        have hj2:cur.size≤j:=by omega
        rw [Array.getElem?_eq_none (by rw [hsize]; exact hj2),Array.getElem?_eq_none hj2]⟩
   · obtain ⟨g1,g2⟩:=grown c (by omega) hxl
     refine ⟨w.heap.size,grownCap w (n+m) c A.e,_,?_,g1,.inl ⟨Nat.le_refl _,g2⟩⟩
     exact run_append_grow (P:=P) w A.t ty A.e A.i A.z A.ht A.hi A.hz ⟨b,0,none⟩ n c xs (by rw [A.hsize]; exact hxl) (fun j u hu=>by
      have hj:j<n*A.sz:=by have:=(List.getElem?_eq_some_iff.1 hu).1; omega
      have:=hown2.cellAt j hj
      rw [Addr.add_mid,Nat.zero_add,this]
      exact hu) ad m cc news (by rw [A.hsize]; exact hl) hnews (by omega) (by omega) (growslice_fits (by omega) (by rw [A.hby]; exact hb))
def rwCs (L:Nat→List Lf) (n:Nat):List Value:=(List.range n).flatMap fun j=>(L j).map (Lf.den idE)
theorem rwCs_succ (L:Nat→List Lf) (n:Nat):rwCs L (n+1)=rwCs L n++(L n).map (Lf.den idE):=by
 unfold rwCs
 rw [List.range_succ,List.flatMap_append,List.flatMap_cons,List.flatMap_nil,List.append_nil]
theorem rwCs_len {sz:Nat} {L:Nat→List Lf}:∀ n,(∀ j,j<n→(L j).length=sz)→(rwCs L n).length=n*sz
 | 0,_=>by simp [rwCs]
 | n+1,h=>by rw [rwCs_succ,List.length_append,rwCs_len n fun j hj=>h j (by omega),List.length_map,h n (by omega),Nat.add_mul,Nat.one_mul]
theorem rwCs_get {sz:Nat} {L:Nat→List Lf} {i e:Nat} {v:Value} (hv:((L i).map (Lf.den idE))[e]?=some v):∀ n,(∀ j,j<n→(L j).length=sz)→i<n→(rwCs L n)[i*sz+e]?=some v
 | 0,_,h=>absurd h (Nat.not_lt_zero i)
 | n+1,hs,h=>by
  have he:e<(L i).length:=by have:=(List.getElem?_eq_some_iff.1 hv).1; rwa [List.length_map] at this
  have hl:(rwCs L n).length=n*sz:=rwCs_len n fun j hj=>hs j (by omega)
  rw [rwCs_succ]
  rcases Nat.lt_succ_iff_lt_or_eq.1 h with h1 | rfl
  · have:i*sz+sz≤n*sz:=by rw [← Nat.succ_mul]; exact Nat.mul_le_mul_right _ h1
    rw [List.getElem?_append_left (by rw [hl]; have:=hs i (by omega); omega)]
    exact rwCs_get hv n (fun j hj=>hs j (by omega)) h1
  · rw [List.getElem?_append_right (by rw [hl]; omega),hl,show i*sz+e-i*sz=e by omega]
    exact hv
theorem rwCs_at {sz:Nat} {L:Nat→List Lf} {k:Nat} {v:Value}:∀ n,(∀ j,j<n→(L j).length=sz)→(rwCs L n)[k]?=some v→∃ i e,i<n∧k=i*sz+e∧((L i).map (Lf.den idE))[e]?=some v
 | 0,_,h=>by simp [rwCs] at h
 | n+1,hs,h=>by
  have hl:(rwCs L n).length=n*sz:=rwCs_len n fun j hj=>hs j (by omega)
  rw [rwCs_succ] at h
  by_cases hk:k<n*sz
  · rw [List.getElem?_append_left (by omega)] at h
    obtain ⟨i,e,h1,h2,h3⟩:=rwCs_at n (fun j hj=>hs j (by omega)) h
    exact ⟨i,e,by omega,h2,h3⟩
  · rw [List.getElem?_append_right (by omega),hl] at h
    exact ⟨n,k-n*sz,by omega,by omega,h⟩
theorem rwCs_add (L:Nat→List Lf) (n:Nat):∀ m,rwCs L (n+m)=rwCs L n++rwCs (fun j=>L (n+j)) m
 | 0=>by simp [rwCs]
 | m+1=>by rw [← Nat.add_assoc,rwCs_succ,rwCs_succ,rwCs_add L n m,List.append_assoc]
def OrD (sz:Nat) (e:TypeId) (n:Nat) (L:Nat→List Lf) (w:World) (g:Pl):Prop :=
 (∀ c,g.F c↔c=g.b)∧(∀ m,g.v m=some ⟨g.b,m,none⟩)∧(0<n∧∀ j,j<n→(L j).length=sz)∧w.ownsRow 0 e sz (.slice (some ⟨g.b,0,none⟩) n (g.c 0)) n (rwCs L n)
theorem OrD.cells {sz:Nat} {e:TypeId} {n:Nat} {L:Nat→List Lf} {w:World} {g:Pl} (h:OrD sz e n L w g):∃ cur,w.heap[g.b]?=some (.cells cur e (0,0))∧n≤g.c 0∧g.c 0≤maxLen∧cur.size=g.c 0*sz∧cur.toList.take (n*sz)=rwCs L n:=by
 rcases h.2.2.2.2 with ⟨e1,_⟩ | ⟨g',cap,cur,e1,_,hh,h1,h2,h3,h4⟩
 · cases e1
 · injection e1 with e1 e2 e3
   injection e1 with e1
   injection e1 with e1
   subst e1 e3
   exact ⟨cur,hh,h1,h2,h3,h4⟩
theorem OrD.heap {sz:Nat} {e:TypeId} {n:Nat} {L:Nat→List Lf} {w w':World} {g:Pl} (h:OrD sz e n L w g) (k:w'.heap[g.b]?=w.heap[g.b]?):OrD sz e n L w' g:=by
 obtain ⟨cur,hh,h1,h2,h3,h4⟩:=h.cells
 exact ⟨h.1,h.2.1,h.2.2.1,h.2.2.2.1,.inr ⟨g.b,g.c 0,cur,rfl,Nat.zero_le _,by rw [k]; exact hh,h1,h2,h3,h4⟩⟩
theorem lr_stable (sz:Nat) (e:TypeId) (n:Nat) (L:Nat→List Lf):Stable (OrD sz e n L) :=
 ⟨fun w g h c hc=>by rw [(h.1 c).1 hc]; obtain ⟨cur,hh,_⟩:=h.cells; exact heap_some_lt hh,
  fun w w' g h k=>h.heap (k.block _ (by obtain ⟨cur,hh,_⟩:=h.cells; exact heap_some_lt hh)),
  fun w w' g b o m s h hs ht hF=>h.heap (ht.block _ (by obtain ⟨cur,hh,_⟩:=h.cells; exact heap_some_lt hh) fun e=>hF ((h.1 b).2 e.symm))⟩
theorem OrD.rw {sz:Nat} {e:TypeId} {n:Nat} {L:Nat→List Lf} (w:World) (g:Pl) (h:OrD sz e n L w g):RwD sz n L w g:=by
 obtain ⟨cur,hh,h1,h2,h3,h4⟩:=h.cells
 refine .inr ⟨h.2.2.1.1,g.b,0,cur,e,(0,0),fun m=>by rw [h.2.1,Nat.zero_add],h.1,hh,fun j hj i v hv=>?_⟩
 rw [cell_of_row _ _ _ _ _ _ hh,Nat.zero_add]
 have hi:i<(L j).length:=by have:=(List.getElem?_eq_some_iff.1 hv).1; rwa [List.length_map] at this
 have h5:=rwCs_get hv n h.2.2.1.2 hj
 have hlt:j*sz+i<n*sz:=by
  have:j*sz+sz≤n*sz:=by rw [← Nat.succ_mul]; exact Nat.mul_le_mul_right _ hj
  have:=h.2.2.1.2 j hj
  omega
 rw [← h4,List.getElem?_take_of_lt hlt] at h5
 rw [← Array.getElem?_toList]
 exact h5
def orT (sz:Nat) (e:TypeId) (n:Nat) (L:Nat→List Lf):Thing :=
 ⟨OrD sz e n L,lr_stable sz e n L,1,RwD sz n L,lsRw_stable sz n L,OrD.rw,false,fun h=>(Bool.noConfusion h),false,fun h=>(Bool.noConfusion h),false,fun h=>(Bool.noConfusion h),false,fun h=>(Bool.noConfusion h)⟩
def orO (sz:Nat) (e:TypeId) (n:Nat) (L:Nat→List Lf):Ob:=.ow (orT sz e n L) e
inductive OrB (β:Env) (sz:Nat) (e:TypeId) (n0:Nat) (L:Nat→List Lf):Option (Nat × Ob)→Value→Prop where
 | nil (h:n0=0):OrB β sz e n0 L none (.slice none 0 0)
 | row (K:Nat) (h:n0=0):OrB β sz e n0 L (some (K,.row [] e 0 sz)) (.slice (some ⟨(β K).b,0,none⟩) 0 ((β K).c 0))
 | own (K:Nat):OrB β sz e n0 L (some (K,orO sz e n0 L)) (.slice ((β K).v 0) n0 ((β K).c 0))
structure OrL (A:AppT Tryz.prog) (L:Nat→List Lf) (n:Nat):Prop where
 len:∀ j,j<n→(L j).length=A.sz
 one:∀ j,j<n→∀ u∈(L j).map (Lf.den idE),u.oneCell'=true
 max:n≤maxLen
 bytes:n*A.bytes≤140737488355328
theorem or_core (A:AppT Tryz.prog) {L:Nat→List Lf} {n0 m:Nat} (h:OrL A L (n0+m)) (hm:0<m) {β:Env} {w:World} {old:Option (Nat × Ob)} {v:Value} (hold:oldHolds β w old) (hk:OrB β A.sz A.e n0 L old v) (b of cc M:Nat)
  (hnews:∀ i,i<m→w.rangeAt b (of+i*A.sz) ((L (n0+i)).map (Lf.den idE))) (s y:Operand) (ρ:Operand→Value) (o:Oper) (ho:o.op=.call ⟨.builtin .append,#[s,y],#[A.t,A.t]⟩) (h1:ρ s=v) (h2:ρ y=.slice (some ⟨b,of,none⟩) m cc) :
  ∃ (g:Pl) (w':World),(execOp ρ o).run Tryz.prog w=.ok (.value ((SV.one (.c (.b (.y M 0 (n0+m))))).den (extE β M [g]))) w'∧(orO A.sz A.e (n0+m) L).holds (extE β M [g]) w' g∧Grow β w w' old g∧(∀ c,g.F c→c=g.b):=by
 have hnl:(rwCs (fun j=>L (n0+j)) m).length=m*A.sz:=rwCs_len m fun j hj=>h.len _ (by omega)
 have hnc:∀ j u,(rwCs (fun j=>L (n0+j)) m)[j]?=some u→w.cell? ((⟨b,of,none⟩:Addr).add j)=some u:=fun j u hu=>by
  obtain ⟨i,e,h3,h4,h5⟩:=rwCs_at m (fun j hj=>h.len (n0+j) (by omega)) hu
  have:=hnews i h3 e u h5
  rw [Addr.add_mid,h4,← Nat.add_assoc]
  exact this
 have hone:∀ u∈rwCs (fun j=>L (n0+j)) m,u.oneCell'=true:=fun u hu=>by
  obtain ⟨j,hj,hu⟩:=List.mem_flatMap.1 hu
  exact h.one _ (by have:=List.mem_range.1 hj; omega) u hu
 obtain ⟨ol,hol,hol2⟩:∃ ol:Option (Nat × Nat),((ol=none∧n0=0∧rwCs L n0=[]∧v=.slice none 0 0)∨∃ b c,ol=some (b,c)∧v=.slice (some ⟨b,0,none⟩) n0 c∧w.ownsRow 0 A.e A.sz v n0 (rwCs L n0)) ∧
   ∀ g c,ol=some (g,c)→∃ p,old=some p∧g=(β p.1).b:=by
  cases hk with
  | nil h0=>subst h0; exact ⟨none,.inl ⟨rfl,rfl,rfl,rfl⟩,fun g c e=>by cases e⟩
  | row K h0 =>
   subst h0
   obtain ⟨ho1,cur,hc1,hc2,hc3,hc4,hc5,hc6⟩:(Ob.row [] A.e 0 A.sz).holds β w (β K):=hold
   exact ⟨some ((β K).b,(β K).c 0),.inr ⟨_,_,rfl,rfl,by simp [rwCs],.inr ⟨_,_,cur,rfl,Nat.zero_le _,hc1,hc3,hc4,hc5,by simp [rwCs]⟩⟩,fun g c e=>by
    injection e with e
    injection e with e1 e2
    exact ⟨_,rfl,e1.symm⟩⟩
  | own K =>
   obtain ⟨_,hd⟩:(orO A.sz A.e n0 L).holds β w (β K):=hold
   have hd:OrD A.sz A.e n0 L w (β K):=hd
   have hv:=hd.2.1 0
   exact ⟨some ((β K).b,(β K).c 0),.inr ⟨_,_,rfl,by rw [hv],by rw [hv]; exact hd.2.2.2⟩,fun g c e=>by
    injection e with e
    injection e with e1 e2
    exact ⟨_,rfl,e1.symm⟩⟩
 obtain ⟨g,cap,w',hr,hown,hgr⟩:=app_core A w o.type ol v hol ⟨b,of,none⟩ cc hnl hnc hone hm h.max h.bytes
 rw [← rwCs_add] at hown
 obtain ⟨cur,hcur⟩:∃ cur,w'.heap[g]?=some (.cells cur A.e (0,0)):=by
  rcases hown.2 with ⟨e1,_⟩ | ⟨g',cap,cur,e1,_,hh,_⟩
  · cases e1
  · injection e1 with e1 e2 e3
    injection e1 with e1
    injection e1 with e1
    subst e1
    exact ⟨cur,hh⟩
 refine ⟨⟨g,fun m=>some ⟨g,m,none⟩,fun _=>cap,fun c=>c=g,fun _=>undef⟩,w',?_,⟨⟨rfl,A.he,_,hcur⟩,fun c=>Iff.rfl,fun m=>rfl,⟨by omega,h.len⟩,hown⟩,?_,fun c hc=>hc⟩
 · have e:(SV.one (.c (.b (.y M 0 (n0+m))))).den (extE β M [(⟨g,fun m=>some ⟨g,m,none⟩,fun _=>cap,fun c=>c=g,fun _=>undef⟩:Pl)])=.slice (some ⟨g,0,none⟩) (n0+m) cap:=by
    have:=extE_in (β:=β) (n:=M) (xs:=[(⟨g,fun m=>some ⟨g,m,none⟩,fun _=>cap,fun c=>c=g,fun _=>undef⟩:Pl)]) (i:=0) rfl
    simp only [Nat.add_zero] at this
    simp only [SV.den,SC.den,Lf.den,Lf0.den,this]
   rw [e]
   exact exec_append s y A.t ho h1 h2 hr
 · rcases hgr with ⟨k1,k2⟩ | ⟨c,k1,N,k2,k3⟩
   · exact .inl ⟨k1,k2⟩
   · obtain ⟨p,p1,p2⟩:=hol2 g c k1
     exact .inr ⟨p,p1,p2,N,k2,k3⟩
def isApT (t:TypeId) (o:Oper):Bool:=match o.op,o.dst with
 | .call ⟨.builtin .append,#[_,_],#[u,u']⟩,some _=>Nat.beq u t&&Nat.beq u' t
 | _,_=>false
def lsKOf:SV→Nat
 | .one (.c (.b (.y k _ _)))=>k
 | .one (.c (.b (.r k _)))=>k
 | .one (.c (.b (.s k _ _ _)))=>k
 | _=>0
inductive OrK where
 | nil
 | row
 | own
def OrK.old (k:OrK) (sz:Nat) (e:TypeId) (n0:Nat) (L:Nat→List Lf) (K:Nat):Option (Nat × Ob):=match k with
 | .nil=>none
 | .row=>some (K,.row [] e 0 sz)
 | .own=>some (K,orO sz e n0 L)
def OrK.val (k:OrK) (n0:Nat) (g:Pl):Value:=match k with
 | .nil=>.slice none 0 0
 | .row=>.slice (some ⟨g.b,0,none⟩) 0 (g.c 0)
 | .own=>.slice (g.v 0) n0 (g.c 0)
def OrK.ok (k:OrK) (n0:Nat):Prop:=match k with
 | .nil=>n0=0
 | .row=>n0=0
 | .own=>True
theorem OrK.orB {k:OrK} {n0:Nat} (h:k.ok n0) (β:Env) (sz:Nat) (e:TypeId) (L:Nat→List Lf) (K:Nat):OrB β sz e n0 L (k.old sz e n0 L K) (k.val n0 (β K)):=by
 cases k
 · exact .nil h
 · exact .row K h
 · exact .own K
def eApL (A:AppT Tryz.prog) (k:OrK) {n0 m N t:Nat} {L L':Nat→List Lf} (hk:k.ok n0) (ht:n0+m=t) (h:OrL A L t) (hm:0<m) (hN:m≤N) (hL:∀ i,i<m→L (n0+i)=L' i):Ev Tryz.prog:=.dynU (fun o _ _=>isApT A.t o) fun o xs ob=>match o.op,o.dst with
 | .call ⟨.builtin .append,#[s,y],_⟩,some d=>lit (lsKOf (xs.getD 0 undefS)) fun K=>lit (lsKOf (xs.getD 1 undefS)) fun a=>lit ob.length fun M =>
   .upd (some d) (.call ⟨.builtin .append,#[s,y],#[A.t,A.t]⟩) (fun β=>[k.val n0 (β K),.slice ((β a).v 0) m ((β a).c 0)]) [(a,(rwT A.sz N L').ob)] (k.old A.sz A.e n0 L K) M (orO A.sz A.e t L) (.one (.c (.b (.y M 0 t)))) (fun β w hh hold ρ o ho hx=>by
    subst ht
    have h3:ρ s=k.val n0 (β K)∧ρ y=.slice ((β a).v 0) m ((β a).c 0):=by simpa [Op.operands,Call.operands] using hx
    have hd:RwD A.sz N L' w (β a):=hh (a,(rwT A.sz N L').ob) (List.mem_singleton.2 rfl)
    rcases hd with hd | ⟨h0,b,of,cs,t,fr,d1,d2,d3,d4⟩
    · omega
    obtain ⟨g,w',r1,r2,r3,r4⟩:=or_core A h hm hold (OrK.orB hk β A.sz A.e L K) b of ((β a).c 0) M (fun i hi=>by rw [hL i hi]; exact d4 i (by omega)) s y ρ o ho h3.1 (by rw [h3.2,d1]; rfl)
    exact ⟨g,w',r1,r2,r3,fun c hc=>.inl (r4 c hc)⟩)
 | _,_=>.cut
def eAp1 (A:AppT Tryz.prog) (k:OrK) {n0:Nat} {L:Nat→List Lf} {cs:List Lf} (hk:k.ok n0) (h:OrL A L (n0+1)) (hL:L n0=cs) (hc:∀ β,cs.map (Lf.den β)=cs.map (Lf.den idE)):Ev Tryz.prog:=.dynU (fun o _ _=>isApT A.t o) fun o xs ob=>match o.op,o.dst with
 | .call ⟨.builtin .append,#[s,y],_⟩,some d=>lit (lsKOf (xs.getD 0 undefS)) fun K=>lit (lsKOf (xs.getD 1 undefS)) fun a=>lit ob.length fun M =>
   .upd (some d) (.call ⟨.builtin .append,#[s,y],#[A.t,A.t]⟩) (fun β=>[k.val n0 (β K),.slice (some ⟨(β a).b,0,none⟩) 1 1]) [(a,.box cs A.e)] (k.old A.sz A.e n0 L K) M (orO A.sz A.e (n0+1) L) (.one (.c (.b (.y M 0 (n0+1))))) (fun β w hh hold ρ o ho hx=>by
    have h3:ρ s=k.val n0 (β K)∧ρ y=.slice (some ⟨(β a).b,0,none⟩) 1 1:=by simpa [Op.operands,Call.operands] using hx
    have hd:(Ob.box cs A.e).holds β w (β a):=hh (a,.box cs A.e) (List.mem_singleton.2 rfl)
    obtain ⟨g,w',r1,r2,r3,r4⟩:=or_core A h (Nat.zero_lt_one) hold (OrK.orB hk β A.sz A.e L K) (β a).b 0 1 M (fun i hi=>by
     obtain rfl:i=0:=by omega
     rw [Nat.add_zero,hL,← hc β]
     intro j v hv
     rw [cell_of_row _ _ _ _ _ _ hd.2,Nat.zero_mul]
     simpa using hv) s y ρ o ho h3.1 h3.2
    exact ⟨g,w',r1,r2,r3,fun c hc=>.inl (r4 c hc)⟩)
 | _,_=>.cut
theorem ap_none (A:AppT Tryz.prog) (s y:Operand) (w:World) (v0:Option Addr) (c0:Nat) (v:Option Addr) (c:Nat) (ρ:Operand→Value) (o:Oper) (ho:o.op=.call ⟨.builtin .append,#[s,y],#[A.t,A.t]⟩) (h1:ρ s=.slice v0 0 c0) (h2:ρ y=.slice v 0 c):(execOp ρ o).run Tryz.prog w=.ok (.value (.slice v0 0 c0)) w:=by
 refine exec_append s y A.t ho h1 h2 (run_append_nothing w A.t A.t o.type A.e A.i A.ht A.hi v0 0 c0 (Nat.zero_le _) _ ?_)
 cases v with
 | none=>exact Src.ofNil w A.ht c
 | some a=>exact Src.ofSlice w A.ht a 0 c [] (by simp) (fun j u hu=>by simp at hu) (fun u hu=>by cases hu)
def eAp0 (A:AppT Tryz.prog) (k:OrK) (hk:k.ok 0) {N:Nat} {L':Nat→List Lf}:Ev Tryz.prog:=.dyn (fun o _ _=>isApT A.t o) fun o xs ob=>match o.op,o.dst with
 | .call ⟨.builtin .append,#[s,y],_⟩,some d=>lit (lsKOf (xs.getD 0 undefS)) fun K=>lit (lsKOf (xs.getD 1 undefS)) fun a =>
   .rd d (.call ⟨.builtin .append,#[s,y],#[A.t,A.t]⟩) (fun β=>[k.val 0 (β K),.slice ((β a).v 0) 0 ((β a).c 0)]) [] 0 (match k with
    | .nil=>.one (.c (.b (.v (.slice none 0 0))))
    | .row=>.one (.c (.b (.r K 0)))
    | .own=>.one (.c (.b (.y K 0 0)))) [] (fun β w hh ρ o ho hx=>by
    have h3:ρ s=k.val 0 (β K)∧ρ y=.slice ((β a).v 0) 0 ((β a).c 0):=by simpa [Op.operands,Call.operands] using hx
    refine ⟨[],w,(fun _ h=>by cases h),?_,trivial,Below.refl _ _⟩
    cases k
    · exact ap_none A s y w _ _ _ _ ρ o ho h3.1 h3.2
    · exact ap_none A s y w _ _ _ _ ρ o ho h3.1 h3.2
    · exact ap_none A s y w _ _ _ _ ρ o ho h3.1 h3.2)
 | _,_=>.cut
def lsOwAt:List Ob→Nat→Nat
 | [],_=>0
 | .ow _ _::_,k=>k
 | _::r,k=>lsOwAt r (k+1)
def eFrz:Ev Tryz.prog:=.frz fun ob=>lsOwAt ob 0
def eSl {T:TypeId} (hu:Tryz.prog.underlying T=some (.slice (Tryz.prog.elem T))) {sz:Nat} (hs:(Tryz.prog.info? (Tryz.prog.elem T)).map (·.size)=some sz) {N n:Nat} (hN:n≤N) (e:TypeId) (L:Nat→List Lf):Ev Tryz.prog:=.dyn (fun o _ _=>match o.op with
 | .slice t _ none (some _) none=>Nat.beq t T
 | _=>false) fun o xs _=>match o.op with
 | .slice _ x none (some y) none=>lit (lsKOf (xs.getD 0 undefS)) fun k=>.rd (o.dst.getD 0) (.slice T x none (some y) none) (fun β=>[.slice ((β k).v 0) N ((β k).c 0),.int .i64 (n:Int)]) [(k,.th (orT sz e N L))] 0 (.one (.c (.b (.y k 0 n)))) [] (fun β w h ρ o ho hx=>by
   have h3:ρ x=.slice ((β k).v 0) N ((β k).c 0)∧ρ y=.int .i64 (n:Int):=by simpa [Op.operands] using hx
   have hd:OrD sz e N L w (β k):=h (k,.th (orT sz e N L)) (List.mem_singleton.2 rfl)
   obtain ⟨cur,_,h1,_⟩:=hd.cells
   refine ⟨[],w,(fun _ h=>by cases h),?_,trivial,Below.refl _ _⟩
   have hz:((sizeOf (Tryz.prog.elem T)).run Tryz.prog w)=.ok sz w:=by
    cases hq:Tryz.prog.info? (Tryz.prog.elem T) with
    | none=>simp [hq] at hs
    | some i =>
     have hs:i.size=sz:=by simpa [hq] using hs
     simp [sizeOf,typeInfo,hq,hs]
   have h6:=run_slice_h (P:=Tryz.prog) (w:=w) T ((β k).v 0) N ((β k).c 0) hu .i64 (n:Int) (by omega) (by omega)
   rw [hz] at h6
   have e:((SV.one (.c (.b (.y k 0 n)))).den (extE β 0 []))=.slice ((β k).v 0) n ((β k).c 0):=rfl
   rw [e]
   unfold execOp
   rw [ho]
   dsimp only
   simp only [Option.map_none,Option.map_some,h3.1,h3.2]
   have h7:(Instr.sliceAt T (.slice ((β k).v 0) N ((β k).c 0)) none (some (.int .i64 (n:Int))) none).run Tryz.prog w=.ok (.slice ((β k).v 0) n ((β k).c 0)) w:=by
    rw [run_sliceAt_slice (P:=Tryz.prog) (w:=w) T _ _ _ _ hu,h6,hd.2.1 0]
    simp [sliced,Addr.add]
   simp only [Sem.run_bind,h7,Result.andThen_ok]
   rfl)
 | _=>.cut
def WrD (sz:Nat) (e:TypeId) (n:Nat) (L:Nat→List Lf) (w:World) (g:Pl):Prop :=
 (∀ c,g.F c↔c=g.b)∧(∀ m,g.v m=some ⟨g.b,m,none⟩)∧(0<n∧∀ j,j<n→(L j).length=sz)∧(∃ cur,w.heap[g.b]?=some (.cells cur e (0,0))∧n*sz≤cur.size)∧(∀ j,j<n→w.rangeAt g.b (j*sz) ((L j).map (Lf.den idE)))∧(∀ i,g.c i=g.c 0-i/sz)∧n≤g.c 0
theorem WrD.heap {sz:Nat} {e:TypeId} {n:Nat} {L:Nat→List Lf} {w w':World} {g:Pl} (h:WrD sz e n L w g) (k:w'.heap[g.b]?=w.heap[g.b]?):WrD sz e n L w' g:=by
 obtain ⟨h1,h2,h3,⟨cur,h4,h5⟩,h6,h7⟩:=h
 refine ⟨h1,h2,h3,⟨cur,by rw [k]; exact h4,h5⟩,fun j hj i v hv=>?_,h7⟩
 rw [World.cell?_of_block (a:=⟨g.b,j*sz+i,none⟩) k]
 exact h6 j hj i v hv
theorem lwr_stable (sz:Nat) (e:TypeId) (n:Nat) (L:Nat→List Lf):Stable (WrD sz e n L) :=
 ⟨fun w g h c hc=>by rw [(h.1 c).1 hc]; obtain ⟨cur,hh,_⟩:=h.2.2.2.1; exact heap_some_lt hh,
  fun w w' g h k=>h.heap (k.block _ (by obtain ⟨cur,hh,_⟩:=h.2.2.2.1; exact heap_some_lt hh)),
  fun w w' g b o m s h hs ht hF=>h.heap (ht.block _ (by obtain ⟨cur,hh,_⟩:=h.2.2.2.1; exact heap_some_lt hh) fun e=>hF ((h.1 b).2 e.symm))⟩
theorem WrD.rw {sz:Nat} {e:TypeId} {n:Nat} {L:Nat→List Lf} (w:World) (g:Pl) (h:WrD sz e n L w g):RwD sz n L w g:=by
 obtain ⟨h1,h2,h3,⟨cur,h4,h5⟩,h6,_⟩:=h
 exact .inr ⟨h3.1,g.b,0,cur,e,(0,0),fun m=>by rw [h2,Nat.zero_add],h1,h4,fun j hj=>by rw [Nat.zero_add]; exact h6 j hj⟩
def lwrT (sz:Nat) (e:TypeId) (n:Nat) (L:Nat→List Lf):Thing :=
 ⟨WrD sz e n L,lwr_stable sz e n L,1,RwD sz n L,lsRw_stable sz n L,WrD.rw,false,fun h=>(Bool.noConfusion h),false,fun h=>(Bool.noConfusion h),false,fun h=>(Bool.noConfusion h),false,fun h=>(Bool.noConfusion h)⟩
def wrO (sz:Nat) (e:TypeId) (n:Nat) (L:Nat→List Lf):Ob:=.ow (lwrT sz e n L) e
theorem touch_setCells {b n:Nat}:∀ (vs:List Value) (o:Nat) (a w:World),o+vs.length≤n→Touch a w b 0 n→Touch a (w.setCells b o vs) b 0 n
 | [],_,_,_,_,h=>h
 | v::r,o,a,w,hn,h=>by
  rw [World.setCells]
  rw [List.length_cons] at hn
  exact touch_setCells r (o+1) a _ (by omega) (h.set_ o ⟨Nat.zero_le _,by omega⟩ v)
theorem wr_set {T e:TypeId} {sz n j:Nat} (he:e≠284) (hi:(Tryz.prog.info? T).map (·.size)=some sz) {L L':Nat→List Lf} (hj:j<n) (hL:∀ i,i<n→i≠j→L' i=L i) {cs:List Lf} (hc:L' j=cs) (hl:cs.length=sz) (h1:∀ u∈cs.map (Lf.den idE),u.oneCell'=true)
  (K:Nat) (x y:Operand) (β:Env) (w:World) (h:(wrO sz e n L).holds β w (β K)) (ρ:Operand→Value) (o:Oper) (ho:o.op=.store T x y) (hx:(Op.store T x y).operands.toList.map ρ=[.pointer ((β K).v (j*sz)),.agg (cs.map (Lf.den idE)).toArray]) :
  ∃ w':World,(execOp ρ o).run Tryz.prog w=.ok .skip w'∧(wrO sz e n L').holds β w' (β K)∧NW w (β K).b∧∃ o n,Touch w w' (β K).b o n:=by
 obtain ⟨⟨hF,hte,_⟩,hd⟩:=h
 have hd:WrD sz e n L w (β K):=hd
 obtain ⟨d1,d2,d3,⟨cur,d4,d5⟩,d6,d7⟩:=hd
 have h3:ρ x=.pointer ((β K).v (j*sz))∧ρ y=.agg (cs.map (Lf.den idE)).toArray:=by simpa [Op.operands] using hx
 rw [d2] at h3
 have hsz:j*sz+sz≤n*sz:=by rw [← Nat.succ_mul]; exact Nat.mul_le_mul_right _ hj
 have hvl:(cs.map (Lf.den idE)).length=sz:=by rw [List.length_map,hl]
 have hthere:w.there (β K).b (j*sz) sz:=fun i hi=>by
  rw [cell_of_row _ _ _ _ _ _ d4]
  refine ⟨?_,by simp [World.frozen?,d4]⟩
  rw [Array.getElem?_eq_getElem (by omega)]
  rfl
 have hst:=run_storeAt_mid (P:=Tryz.prog) w (β K).b (j*sz) T (cs.map (Lf.den idE)).toArray (by rw [List.size_toArray,hvl]; exact hthere) (by rw [List.size_toArray,hvl]; exact hi) (all_oneCell_toArray h1)
 have hT:Touch w (w.setCells (β K).b (j*sz) (cs.map (Lf.den idE))) (β K).b 0 (n*sz):=touch_setCells _ _ _ _ (by rw [hvl]; exact hsz) (Touch.refl _ _ _ _)
 obtain ⟨cur',e1,e2,_⟩:=hT.own _ _ _ d4
 refine ⟨w.setCells (β K).b (j*sz) (cs.map (Lf.den idE)),?_,⟨⟨hF,hte,_,e1⟩,d1,d2,⟨d3.1,fun i hi=>?_⟩,⟨cur',e1,by omega⟩,fun i hi=>?_,d7⟩,(fun cs' fr e'=>by rw [d4] at e'; injection e' with e'; injection e' with _ e'; exact he e'),0,n*sz,hT⟩
 · unfold execOp
   rw [ho]
   dsimp only
   rw [h3.1,h3.2]
   simp only [Sem.run_bind,hst,Result.andThen_ok]
   rfl
 · by_cases e3:i=j
   · rw [e3,hc,hl]
   · rw [hL i hi e3]; exact d3.2 i hi
 · by_cases e3:i=j
   · rw [e3,hc]
     exact World.rangeAt_setCells_same w _ _ _ (by rw [hvl]; exact hthere)
   · rw [hL i hi e3]
     refine World.rangeAt_setCells_apart (d6 i hi) _ _ _ (.inr ?_)
     rw [hvl,List.length_map,d3.2 i hi]
     rcases Nat.lt_or_gt_of_ne e3 with h4 | h4
     · left
       rw [← Nat.succ_mul]
       exact Nat.mul_le_mul_right _ h4
     · right
       rw [← Nat.succ_mul]
       exact Nat.mul_le_mul_right _ h4
def eSt {T e:TypeId} {sz n j:Nat} (he:e≠284) (hi:(Tryz.prog.info? T).map (·.size)=some sz) {L L':Nat→List Lf} (hj:j<n) (hL:∀ i,i<n→i≠j→L' i=L i) {cs:List Lf} (hc:L' j=cs) (hl:cs.length=sz) (h1:∀ u∈cs.map (Lf.den idE),u.oneCell'=true):Ev Tryz.prog:=.dynU (fun o _ _=>match o.op with
 | .store t _ _=>Nat.beq t T
 | _=>false) fun o xs _=>match o.op with
 | .store _ x y=>lit (lsZOf (xs.getD 0 undefS)) fun K=>.chg (.store T x y) (fun β=>[.pointer ((β K).v (j*sz)),.agg (cs.map (Lf.den idE)).toArray]) [] K (wrO sz e n L) (wrO sz e n L') (fun β w _ h ρ o ho hx=>wr_set he hi hj hL hc hl h1 K x y β w h ρ o ho hx)
 | _=>.cut
abbrev TG:TypeId:=37
theorem said_0 {P:Program} {fn:Func} {m0:Nat} {res res':SV} {β:Env} {w:World} {e:Ending} {w':World} (h:Said P fn m0 res [] β w e w') (hr:∀ β':Env,(∀ k,k<m0→β' k=β k)→res.den β'=res'.den β):∃ xs:List Pl,freshS β w m0 xs∧e=.returned (res'.den (extE β m0 xs))∧newHold w' [] xs∧Below w.heap.size w w':=by
 obtain ⟨β',q,obj,hb,rfl,_,_,_,g⟩:=h
 exact ⟨[],(fun _ h=>by cases h),by rw [hr β' hb,extE_nil],trivial,g.bel⟩
theorem hd_ev' {m0 N B0:Nat} {w0:World} {β0:Env} {Q:Exit→Act→World→Prop} {u:Nat} {sl:List (Nat × SV)} {ob:List Ob} {ev ev':List (Ev Tryz.prog)} {p:Code × List Kf} (h:HdOk Tryz.prog m0 N B0 w0 β0 Q (mkC Tryz.prog N u sl ob ev) p):HdOk Tryz.prog m0 N B0 w0 β0 Q (mkC Tryz.prog N u sl ob ev') p :=
 fun β a w hβ hs=>h β a w hβ (hs.ev ev)
end Go.Proofs.YtmfedaakeeiolaaGreat.Y
end
