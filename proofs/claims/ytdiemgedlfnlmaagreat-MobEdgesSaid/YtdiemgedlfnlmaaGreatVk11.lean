/- TxB, MoD, Wks, MeB, MeC, MeL, MeW. -/
import Derived.Test.YtdiemgedlfnlmaaGreatVk10
set_option linter.unnecessarySimpa false
set_option linter.unusedVariables false
set_option linter.unusedSimpArgs false
section
namespace Go.Proofs.YtdiemgedlfnlmaaGreat
theorem mag_1:mag 1=⟨#[1]⟩:=by unfold mag; rw [led_pos 1 (by decide),led_zero]; rfl
theorem mag_2:mag 2=⟨#[2]⟩:=by unfold mag; rw [led_pos 2 (by decide),led_zero]; rfl
theorem mag_0:mag 0=⟨#[]⟩:=by unfold mag; rw [led_zero]; rfl
theorem dig_1:dig 1=[1]:=by rw [dig_pos 1 (by decide),dig_zero]
theorem dig_2:dig 2=[2]:=by rw [dig_pos 2 (by decide),dig_zero]
end Go.Proofs.YtdiemgedlfnlmaaGreat
namespace Go.Proofs.YtdiemgedlfnlmaaGreat.Y
open Go Go.RowKit
set_option maxRecDepth 100000
def WR (xs:List Nat) (w:World) (g:Pl):Prop:=(∀ c,¬ g.F c)∧Words w (.slice (g.v 0) xs.length (g.c 0)) xs
theorem wr_stable (xs:List Nat):Stable (WR xs) :=
 ⟨fun w g ⟨h,_⟩ c hc=>(h c hc).elim,fun w w' g ⟨h,k⟩ hb=>⟨h,k.below hb⟩,fun w w' g b o m n ⟨h,k⟩ hs ht _=>⟨h,Words.touchN k hs ht⟩⟩
def wrT (xs:List Nat):Thing:=thing (WR xs) (wr_stable xs)
def wPl (A:Option Addr) (c:Nat):Pl:=⟨0,fun _=>A,fun _=>c,fun _=>False,fun _=>undef⟩
theorem words_ok {s:ByteArray} {n:Nat} {xs:List Nat} (hs:s=mag n) (hm:s.size≤4294967296) (hx:dig n=xs) (β:Env) (w:World) :
  Calls Tryz.prog 276 #[.string s] w fun e w'=>∃ ys:List Pl,freshS β w 0 ys∧e=.returned ((SV.one (.c (.b (.y 0 0 xs.length)))).den (extE β 0 ys))∧newHold w' [wrT xs] ys∧Below w.heap.size w w':=by
 refine (words_any s n hs hm).mono fun e w' ⟨A,c,he,h1,h2⟩=>⟨[wPl A c],fun x hx c hc=>?_,?_,⟨⟨fun _ h=>h,?_⟩,trivial⟩,h2⟩
 · rw [List.mem_singleton.1 hx] at hc; exact hc.elim
 · rw [he,hx]; rfl
 · rw [hx] at h1; exact h1
def sWords {s:ByteArray} {n:Nat} {xs:List Nat} (hs:s=mag n) (hm:s.size≤4294967296) (hx:dig n=xs) {l:Nat} (hl:xs.length=l):Spec Tryz.prog :=
 ⟨276,Tryz.call276,[.one (.c (.b (.v (.string s))))],[],.one (.c (.b (.y 0 0 l))),[wrT xs],fun β w _=>by rw [← hl]; exact words_ok hs hm hx β w,by kernel_rfl⟩
theorem small_ok {xs:List Nat} {d:Nat} (h1:xs.length≤17179869184) (hd0:0<d) (hd:d<4294967296) {ys:List Nat} (hq:dig (val xs/d)=ys) {r:Nat} (hr:val xs % d=r) (β:Env) (w:World) (hh:(wrT xs).D w (β 0)) :
  Calls Tryz.prog 378 #[.slice ((β 0).v 0) xs.length ((β 0).c 0),.int .u64 (d:Int)] w fun e w'=>∃ zs:List Pl,freshS β w 1 zs∧e=.returned ((SV.tup [.c (.b (.y 1 0 ys.length)),.c (.b (.v (.int .u64 (r:Int))))]).den (extE β 1 zs))∧newHold w' [wrT ys] zs∧Below w.heap.size w w':=by
 refine (small_any hh.2 h1 d hd0 hd).mono fun e w' ⟨v,he,h2,h3⟩=>?_
 rw [hq] at h2
 obtain ⟨A,c,rfl,hc⟩:=h2.shape
 refine ⟨[wPl A c],fun x hx c hc=>?_,?_,⟨⟨fun _ h=>h,h2⟩,trivial⟩,h3⟩
 · rw [List.mem_singleton.1 hx] at hc; exact hc.elim
 · rw [he,hr]; rfl
def sSmall {xs:List Nat} {d:Nat} (h1:xs.length≤17179869184) (hd0:0<d) (hd:d<4294967296) {ys:List Nat} (hq:dig (val xs/d)=ys) {r:Nat} (hr:val xs % d=r) {l m:Nat} (hl:xs.length=l) (hm:ys.length=m):Spec Tryz.prog :=
 ⟨378,Tryz.call378,[.one (.c (.b (.y 0 0 l))),.one (.c (.b (.v (.int .u64 (d:Int)))))],[wrT xs],.tup [.c (.b (.y 1 0 m)),.c (.b (.v (.int .u64 (r:Int))))],[wrT ys],fun β w hh=>by
  rw [← hl,← hm]; exact small_ok h1 hd0 hd hq hr β w (hh 0 _ rfl),by kernel_rfl⟩
theorem u8_some:(Tryz.prog.info? 5).isSome=true:=by kernel_rfl
noncomputable def appB:AppT Tryz.prog :=
 ⟨245,5,(Tryz.prog.info? 5).get u8_some,.int .u8 0,1,1,Tryz.underlying245,(Option.some_get u8_some).symm,by kernel_rfl,by kernel_rfl,by kernel_rfl,rfl,by decide,by decide⟩
abbrev tS (s:ByteArray):SV:=.one (.c (.b (.v (.string s))))
abbrev tW (b:Bool) (s:ByteArray):SV:=.one (.a [.b (.v (.bool b)),.b (.v (.string s))])
def smE1:Ev Tryz.prog:=(sSmall (xs:=[1]) (d:=1000000000) (by decide) (by decide) (by decide) (ys:=[]) (by rw [show val [1]/1000000000=0 by decide]; exact dig_zero) (r:=1) (by decide) (l:=1) rfl (m:=0) rfl).e
def smE2:Ev Tryz.prog:=(sSmall (xs:=[2]) (d:=1000000000) (by decide) (by decide) (by decide) (ys:=[]) (by rw [show val [2]/1000000000=0 by decide]; exact dig_zero) (r:=2) (by decide) (l:=1) rfl (m:=0) rfl).e
noncomputable def sTxtM1:Spec Tryz.prog:=Spec.auto Tryz.call356 [tW true ⟨#[1]⟩] [] (tS ⟨#[45,49]⟩) []
 [(sWords (s:=⟨#[1]⟩) (n:=1) mag_1.symm (by decide) dig_1 (l:=1) rfl).e,smE1,.app appB,.app appB] [] 3000 Tryz.func356 hmA (by kernel_rfl) (fun β=>by kernel_rfl)
noncomputable def sTxt2:Spec Tryz.prog:=Spec.auto Tryz.call356 [tW false ⟨#[2]⟩] [] (tS ⟨#[50]⟩) []
 [(sWords (s:=⟨#[2]⟩) (n:=2) mag_2.symm (by decide) dig_2 (l:=1) rfl).e,smE2,.app appB] [] 3000 Tryz.func356 hmA (by kernel_rfl) (fun β=>by kernel_rfl)
end Go.Proofs.YtdiemgedlfnlmaaGreat.Y
end
section
namespace Go.Proofs.YtdiemgedlfnlmaaGreat.Y
open Go Go.RowKit
set_option maxRecDepth 100000
noncomputable def sIsA {m n:MQ} (h:MSz KE m) (k:MSz KE n) (ht:m.t=false) (hu:n.t=false) (h0:gzero (gsub m.a n.a)=false):Spec Tryz.prog :=
 ⟨313,Tryz.call313,[mV 0 m,mV 8 n],mM m++mM n,.one (.c (.b (.v (.bool false)))),[],fun β w hh=>by
  obtain ⟨a,b,c,d,t⟩:=m
  obtain ⟨a',b',c',d',t'⟩:=n
  cases ht
  cases hu
  exact spec_auto (args:=[mV 0 ⟨a,b,c,d,false⟩,mV 8 ⟨a',b',c',d',false⟩]) (obs:=mM ⟨a,b,c,d,false⟩++mM ⟨a',b',c',d',false⟩) (evs:=[(sSame (z:=a) (w:=a') h.a k.a h0).e]) (Ns:=[]) (m:=400) Tryz.func313 hmA (fun β=>by kernel_rfl) (by kernel_rfl) β w hh,by kernel_rfl⟩
theorem still_sz {t:Bool}:MSz KE (mstill t):=⟨(GSz.int (by decide) (by decide)).mono (by decide),g0_sz (by decide),g0_sz (by decide),(GSz.int (by decide) (by decide)).mono (by decide)⟩
noncomputable def sOrder2 {m:MQ} (h:MSz 1024 m) (ht:m.t=false) (h0:gzero (gsub m.a (gint 1 0))=false) (h1:gzero (gmul (gadd m.a m.d) (gadd m.a m.d))=true):Spec Tryz.prog :=
 ⟨224,Tryz.call224,[mV 0 m],mM m,.one (.c (.b (.v (.int .i64 2)))),[],fun β w hh=>by
  obtain ⟨a,b,c,d,t⟩:=m
  cases ht
  have ha:GSz KE (gadd a d):=(h.a.add h.d).mono (by decide)
  exact spec_auto (args:=[mV 0 ⟨a,b,c,d,false⟩]) (obs:=mM ⟨a,b,c,d,false⟩) (evs:=[sStill.e,(sIsA (m:=⟨a,b,c,d,false⟩) (n:=mstill false) (h.mono (by decide)) still_sz rfl rfl h0).e,(sAdd (h.a.mono (by decide)) (h.d.mono (by decide))).e,mulE ha ha,(sZero (z:=gmul (gadd a d) (gadd a d)) h1).e]) (Ns:=[(1,4)]) (m:=800) Tryz.func224 hmA (fun β=>by kernel_rfl) (by kernel_rfl) β w hh,by kernel_rfl⟩
noncomputable def sOrd2 {m:MQ} (h:MayQ m) (ht:m.t=false) (h0:gzero (gsub m.a (gint 1 0))=false) (h1:gzero (gmul (gadd m.a m.d) (gadd m.a m.d))=true):Spec Tryz.prog :=
 Spec.auto Tryz.call84 [.one (.a (mCl m))] [] (.tup [.c (.b (.v (.int .i64 2))),.c (.b (.v (.int .i64 0)))]) []
  [(sOpenYes h).e,(sOrder2 (fitM_sz h.1) ht h0 h1).e] [] 800 Tryz.func84 hmA (by kernel_rfl) (fun β=>by kernel_rfl)
abbrev tF (b:Bool) (s t:ByteArray):SV:=.one (.a [.b (.v (.bool b)),.b (.v (.string s)),.b (.v (.bool false)),.b (.v (.string t))])
theorem whole1:wholeV 1=.agg #[.bool false,.string ⟨#[1]⟩]:=by unfold wholeV; rw [show (1:Int).natAbs=1 from rfl,mag_1]; rfl
def yWOf1:Ev Tryz.prog:=.ret 125 Tryz.call125 #[.int .i64 1] (.agg #[.bool false,.string ⟨#[1]⟩]) (fun w=>by rw [← whole1]; exact rof_any (by decide))
noncomputable def sTxtH:Spec Tryz.prog:=Spec.auto Tryz.call295 [tF true ⟨#[1]⟩ ⟨#[2]⟩] [] (tS ⟨#[45,49,47,50]⟩) []
 [yWOf1,eqEvW false false ⟨#[2]⟩ ⟨#[1]⟩ false (by decide +kernel),sTxtM1.e,sTxt2.e] [(1,4),(3,9)] 800 Tryz.func295 hmA (by kernel_rfl) (fun β=>by kernel_rfl)
abbrev svN0 (k:Int):SV:=.one (.c (.b (.v (.int .i64 k))))
def sSgM:Spec Tryz.prog:=Spec.auto Tryz.call273 [tW true ⟨#[1]⟩] [] (svN0 (-1)) [] [] [] 400 Tryz.func273 hmA (by kernel_rfl) (fun β=>by kernel_rfl)
def sSg0:Spec Tryz.prog:=Spec.auto Tryz.call273 [tW false ⟨#[]⟩] [] (svN0 0) [] [] [] 400 Tryz.func273 hmA (by kernel_rfl) (fun β=>by kernel_rfl)
def sSg3M:Spec Tryz.prog:=Spec.auto Tryz.call135 [tF true ⟨#[1]⟩ ⟨#[2]⟩] [] (svN0 (-1)) [] [sSgM.e] [] 400 Tryz.func135 hmA (by kernel_rfl) (fun β=>by kernel_rfl)
def sSg30:Spec Tryz.prog:=Spec.auto Tryz.call135 [tF false ⟨#[]⟩ ⟨#[1]⟩] [] (svN0 0) [] [sSg0.e] [] 400 Tryz.func135 hmA (by kernel_rfl) (fun β=>by kernel_rfl)
noncomputable def sRealNo:Spec Tryz.prog:=Spec.auto Tryz.call296 [.one (.a [.b (.v (.bool false)),.b (.v (.string ⟨#[]⟩)),.b (.v (.bool false)),.b (.v (.string ⟨#[1]⟩)),.b (.v (.bool true)),.b (.v (.string ⟨#[1]⟩)),.b (.v (.bool false)),.b (.v (.string ⟨#[2]⟩))])] [] (.one (.c (.b (.v (.bool false))))) []
 [sSg3M.e] [] 400 Tryz.func296 hmA (by kernel_rfl) (fun β=>by kernel_rfl)
noncomputable def sTxtG:Spec Tryz.prog:=Spec.auto Tryz.call181 [.one (.a [.b (.v (.bool false)),.b (.v (.string ⟨#[]⟩)),.b (.v (.bool false)),.b (.v (.string ⟨#[1]⟩)),.b (.v (.bool true)),.b (.v (.string ⟨#[1]⟩)),.b (.v (.bool false)),.b (.v (.string ⟨#[2]⟩))])] [] (tS ⟨#[45,49,47,50,105]⟩) []
 [sTxtH.e,sRealNo.e,sSg30.e] [] 800 Tryz.func181 hmA (by kernel_rfl) (fun β=>by kernel_rfl)
end Go.Proofs.YtdiemgedlfnlmaaGreat.Y
end
section
namespace Go.Proofs.YtdiemgedlfnlmaaGreat
theorem jz_det:gzero (mdet ⟨gint 0 0,gint 2 0,gint 2 0,gint 0 0,false⟩)=false:=by kernel_rfl
def mJ:MQ:=⟨gint 0 0,gint 1 0,gint 1 0,gint 0 0,false⟩
theorem j_norm:mnorm ⟨gint 0 0,gint 2 0,gint 2 0,gint 0 0,false⟩=mJ:=mq_ext (gq_lit (by kernel_rfl) (by kernel_rfl)) (gq_lit (by kernel_rfl) (by kernel_rfl)) (gq_lit (by kernel_rfl) (by kernel_rfl)) (gq_lit (by kernel_rfl) (by kernel_rfl)) rfl
theorem j_inv:minv mJ=mJ:=mq_ext (gq_lit (by kernel_rfl) (by kernel_rfl)) (gq_lit (by kernel_rfl) (by kernel_rfl)) (gq_lit (by kernel_rfl) (by kernel_rfl)) (gq_lit (by kernel_rfl) (by kernel_rfl)) rfl
theorem j_fit:FitM mJ:=⟨fit_int (by decide) (by decide),fit_int (by decide) (by decide),fit_int (by decide) (by decide),fit_int (by decide) (by decide)⟩
theorem z2_fit:FitM ⟨gint 0 0,gint 2 0,gint 2 0,gint 0 0,false⟩:=⟨fit_int (by decide) (by decide),fit_int (by decide) (by decide),fit_int (by decide) (by decide),fit_int (by decide) (by decide)⟩
def gH:GQ:=⟨Rat.divInt 0 1,Rat.divInt (-1) 2⟩
theorem j_half:msend mJ (.fin (gint 0 2)) false=.fin gH:=congrArg Pt.fin (gq_lit (by kernel_rfl) (by kernel_rfl))
theorem j_msD:gzero (msD mJ (.fin (gint 0 2)))=false:=by kernel_rfl
theorem h_parts:gH.re.num=0∧gH.re.den=1∧gH.im.num = -1∧gH.im.den=2:=by decide +kernel
theorem h_fit:FitP (.fin gH):=fit_small (by rw [h_parts.1]; decide) (by rw [h_parts.2.1]; decide) (by rw [h_parts.2.2.1]; decide) (by rw [h_parts.2.2.2]; decide)
theorem h_cells:paC (.fin gH)=[.b (.v (.bool false)),.b (.v (.bool false)),.b (.v (.string ⟨#[]⟩)),.b (.v (.bool false)),.b (.v (.string ⟨#[1]⟩)),.b (.v (.bool true)),.b (.v (.string ⟨#[1]⟩)),.b (.v (.bool false)),.b (.v (.string ⟨#[2]⟩))]:=by
 rw [paC_raw,(pa_fit h_fit).1,(pa_fit h_fit).2.1,(pa_fit h_fit).2.2]
 show rawC false (fR gH.re) (fR gH.im)=_
 unfold fR
 rw [h_parts.1,h_parts.2.1,h_parts.2.2.1,h_parts.2.2.2,show (0:Int).natAbs=0 from rfl,show (-1:Int).natAbs=1 from rfl,mag_0,mag_1,mag_2]
 rfl
def mK:MQ:=⟨gint 0 0,gint (-2) 0,gint 1 0,gint (-2) 0,false⟩
theorem k_of:mof (pI 0 0) (pI 1 0) (pI 2 0) (pI 1 0) (pI 2 0) .inf false=mK:=mq_ext (gq_lit (by kernel_rfl) (by kernel_rfl)) (gq_lit (by kernel_rfl) (by kernel_rfl)) (gq_lit (by kernel_rfl) (by kernel_rfl)) (gq_lit (by kernel_rfl) (by kernel_rfl)) rfl
theorem k_fit:FitM mK:=⟨fit_int (by decide) (by decide),fit_int (by decide) (by decide),fit_int (by decide) (by decide),fit_int (by decide) (by decide)⟩
theorem k_six:Six (pI 0 0) (pI 1 0) (pI 2 0) (pI 1 0) (pI 2 0) .inf:=⟨pI_ne (by decide),pI_ne (by decide),pI_ne (by decide),pI_ne (by decide),(fun e=>by cases e),(fun e=>by cases e)⟩
theorem k_p6:P6 (pI 0 0) (pI 1 0) (pI 2 0) (pI 1 0) (pI 2 0) .inf FitP:=⟨pI_fit (by decide) (by decide),pI_fit (by decide) (by decide),pI_fit (by decide) (by decide),pI_fit (by decide) (by decide),pI_fit (by decide) (by decide),trivial⟩
end Go.Proofs.YtdiemgedlfnlmaaGreat
namespace Go.Proofs.YtdiemgedlfnlmaaGreat.Y
open Go Go.RowKit
set_option maxRecDepth 100000
theorem j_may:MayQ mJ:=⟨j_fit,by kernel_rfl,.inl (by kernel_rfl)⟩
abbrev q2 (n m:Int):Pt:=.fin (gint n m)
noncomputable def kMake:Spec Tryz.prog :=
 (sMake (m:=⟨gint 0 0,gint 2 0,gint 2 0,gint 0 0,false⟩) z2_fit jz_det).as [gS (gint 0 0),gS (gint 2 0),gS (gint 2 0),gS (gint 0 0),tB' false] (.tup [.a (lsX (mC mJ)),nI' 0]) rfl (by
  show SV.tup [.a (lsX (maC (mnorm ⟨gint 0 0,gint 2 0,gint 2 0,gint 0 0,false⟩))),nI' (maK (mnorm ⟨gint 0 0,gint 2 0,gint 2 0,gint 0 0,false⟩))]=_
  rw [j_norm,(maC_fit j_fit).1,(maC_fit j_fit).2])
noncomputable def kwAt:Spec Tryz.prog :=
 (sAt j_may (p:=q2 0 2) (fit_int (by decide) (by decide)) j_msD).as [.one (.a (mCl mJ)),.one (.a (lsX (q2 0 2).w.C))] (.tup [.a [.b (.v (.bool false)),.b (.v (.bool false)),.b (.v (.string ⟨#[]⟩)),.b (.v (.bool false)),.b (.v (.string ⟨#[1]⟩)),.b (.v (.bool true)),.b (.v (.string ⟨#[1]⟩)),.b (.v (.bool false)),.b (.v (.string ⟨#[2]⟩))],nI' 0]) rfl (by
  show SV.tup [.a (lsX (paC (msend mJ (q2 0 2) false))),nI' (paK (msend mJ (q2 0 2) false))]=_
  rw [j_half,paK_fit h_fit,h_cells])
noncomputable def kInv:Spec Tryz.prog :=
 (sInv j_may).as [.one (.a (mCl mJ))] (.tup [.a (lsX (mC mJ)),nI' 0]) rfl (by
  show SV.tup [.a (lsX (maC (minv mJ))),nI' (maK (minv mJ))]=_
  rw [j_inv,(maC_fit j_fit).1,(maC_fit j_fit).2])
noncomputable def kOrd:Spec Tryz.prog:=sOrd2 j_may rfl (by kernel_rfl) (by kernel_rfl)
noncomputable def kOf:Spec Tryz.prog :=
 (sOf3 k_p6 false k_six).as [a3 (q2 0 0).w (q2 1 0).w (q2 2 0).w,a3 (q2 1 0).w (q2 2 0).w Pt.inf.w,tB false] (.tup [.a (lsX (mC mK)),nI' 0]) rfl (by
  show SV.tup [.a (lsX (maC (mof (q2 0 0) (q2 1 0) (q2 2 0) (q2 1 0) (q2 2 0) .inf false))),nI' (maK (mof (q2 0 0) (q2 1 0) (q2 2 0) (q2 1 0) (q2 2 0) .inf false))]=_
  rw [k_of,(maC_fit k_fit).1,(maC_fit k_fit).2])
def eqEvM1 (a a' b b' c c' d d':R4) (t:Bool):Ev Tryz.prog :=
 eqEv 74 (Go.Proofs.YtdiemgedlfnlmaaGreat.mV a a' b b' c c' d d' t) (Go.Proofs.YtdiemgedlfnlmaaGreat.mV a a' b b' c c' d d' t) true (by kernel_rfl) (fun w=>by
  have h:=eqM (w:=w) 9995 a a' b b' c c' d d' t a a' b b' c c' d d' t
  rw [geq_self,geq_self,geq_self,geq_self,show (t==t)=true from beq_self_eq_true t] at h
  exact h)
def eqMC1 (m:MQ):Ev Tryz.prog:=eqEvM1 (fR m.a.re) (fR m.a.im) (fR m.b.re) (fR m.b.im) (fR m.c.re) (fR m.c.im) (fR m.d.re) (fR m.d.im) m.t
noncomputable def nX (k:Int):Ev Tryz.prog:=(Spec.ofX (sNum8 k) rfl rfl).e
noncomputable def inX (n m:Int) (hn : -9223372036854775808≤n∧n≤9223372036854775807:=by decide) (hm : -9223372036854775808≤m∧m≤9223372036854775807:=by decide):Ev Tryz.prog:=(Spec.ofX (sIn8 n m hn hm) rfl rfl).e
noncomputable def atX (n m:Int) (hn : -9223372036854775808≤n∧n≤9223372036854775807:=by decide) (hm : -9223372036854775808≤m∧m≤9223372036854775807:=by decide):Ev Tryz.prog:=(Spec.ofX (sAt8 n m hn hm) rfl rfl).e
noncomputable def sWorks:Spec Tryz.prog :=
 Spec.auto Tryz.call67 [] [] (.one (.c (.b (.v (.bool true))))) []
  [inX 0 0,inX 2 0,inX 2 0,inX 0 0,kMake.e,atX 0 2,kwAt.e,kInv.e,kOrd.e,atX 0 0,atX 1 0,atX 2 0,atX 1 0,atX 2 0,kOf.e,
   nX 0,nX 0,sTxtG.e,nX 0,eqMC1 mJ,nX 0,nX 0,inX 0 0,inX (-2) 0,inX 1 0,inX (-2) 0,eqMC1 mK] [(2,2007008),(6,48)] 1200 Tryz.func67 hmA (by kernel_rfl) (fun β=>by kernel_rfl)
end Go.Proofs.YtdiemgedlfnlmaaGreat.Y
end
section
namespace Go.Proofs.YtdiemgedlfnlmaaGreat.Y
open Go Go.RowKit
set_option maxRecDepth 100000
def bsConv {P:Program} (S:BSpec P) (r:Value) (h:S.r=r) (hr:∀ β,(tag r).den β=r):BSpec P :=
 ⟨S.f,S.en,S.args,S.cs,S.t,r,fun β w hh=>by rw [← h]; exact S.ok β w hh,S.cl,hr⟩
section
variable {n:Nat} (hn:0<n) (h1:(mag n).size≤1024)
abbrev meH (n:Nat):MQ:=mstr (nq n)
abbrev meI (n:Nat):MQ:=mstr (nqi n)
abbrev meT (m:MQ):SV:=.tup [.a (mCl m),mcI 0]
def meTwo (hC:twS 1023 128=mag n):Spec Tryz.prog:=sTwoA.conv (gS (nq n)) (by
 show SV.one (.a (twC (twS 1023 128)))=.one (.a (gC (nq n)))
 rw [nq_C,hC])
theorem meH_may {n:Nat} (hn:0<n) (h1:(mag n).size≤1024):MayQ (meH n):=mstr_may (nq_fit.2 h1) (nq_zero hn)
theorem nqi_zero {n:Nat} (hn:0<n):gzero (nqi n)=false:=by
 rw [gz_false]
 intro e
 have h2:=nqi_mul hn
 rw [e] at h2
 have:=congrArg GQ.re h2
 simp only [gint10,gmul,g0,nq] at this
 grind
theorem meI_may {n:Nat} (hn:0<n) (h1:(mag n).size≤1024):MayQ (meI n):=mstr_may (nqi_fit hn h1) (nqi_zero hn)
theorem ma_tup {m:MQ} (h:FitM m):SV.tup [.a (lsX (maC m)),nI' (maK m)]=meT m:=by rw [(ma_fit h).1,(ma_fit h).2]
noncomputable def meStr:Spec Tryz.prog:=(sStretch (nq_fit.2 h1) (nq_zero hn)).conv (meT (meH n)) (ma_tup (mstr_fit (nq_fit.2 h1)))
noncomputable def meInv:Spec Tryz.prog:=(sInv (meH_may hn h1)).conv (meT (meI n)) (by
 show SV.tup [.a (lsX (maC (minv (meH n)))),nI' (maK (minv (meH n)))]=_
 rw [mstr_inv hn]
 exact ma_tup (mstr_fit (nqi_fit hn h1)))
theorem meSq (hq:¬ (mag (n*n)).size≤1024):¬ FitM (mcmp (meH n) (meH n)):=by
 rw [mstr_cmp,nq_mul]
 exact fun h=>hq (nq_fit.1 h.1)
noncomputable def meCompN (hq:¬ (mag (n*n)).size≤1024):BSpec Tryz.prog:=sCompN (meH_may hn h1) (meH_may hn h1) (meSq hq)
noncomputable def meComp3 (hq:¬ (mag (n*n)).size≤1024):BSpec Tryz.prog:=sComp3N (meI_may hn h1) (meH_may hn h1) (meH_may hn h1) (meSq hq)
theorem meIH {n:Nat} (hn:0<n):mcmp (meI n) (meH n)=mid false:=by
 rw [mstr_cmp,nqi_mul hn]
 refine mq_ext rfl ?_ ?_ rfl rfl
 · exact g00
 · exact g00
noncomputable def meCompY:BSpec Tryz.prog:=bsConv (sCompY (meI_may hn h1) (meH_may hn h1) (by rw [meIH hn]; exact mid_fit false)) ((meT (mid false)).den idE) (by
 show (SV.tup [.a (mCl (mcmp (meI n) (meH n))),mcI 0]).den idE=_
 rw [meIH hn]) (fun β=>by kernel_rfl)
noncomputable def meAt1:Spec Tryz.prog:=(sAt (meH_may hn h1) (p:=.fin (gint 1 0)) fit10 (mstr_msD _ _)).conv (.tup [.a (.b (.v (.bool false))::gC (nq n)),nI' 0]) (by
 show SV.tup [.a (lsX (paC (msend (meH n) (.fin (gint 1 0)) false))),.c (.b (.v (.int .i64 (paK (msend (meH n) (.fin (gint 1 0)) false)))))]=_
 rw [mstr_send,show gmul (nq n) (gint 1 0)=nq n by
  rw [gint10]
  refine GQ.ext2 ?_ ?_<;>(simp only [gmul,nq]; grind)]
 show SV.tup [.a (.b (.v (.bool false))::gaC (nq n)),.c (.b (.v (.int .i64 (gaK (nq n)))))]=_
 rw [(ga_fit (nq_fit.2 h1)).1,(ga_fit (nq_fit.2 h1)).2])
noncomputable def meAt2 (h2:¬ (mag (n*2)).size≤1024):Spec Tryz.prog:=(sAt (meH_may hn h1) (p:=.fin (gint 2 0)) (fit_int (by decide) (by decide)) (mstr_msD _ _)).conv (.tup [pt0,nI' 4]) (by
 show SV.tup [.a (lsX (paC (msend (meH n) (.fin (gint 2 0)) false))),.c (.b (.v (.int .i64 (paK (msend (meH n) (.fin (gint 2 0)) false)))))]=_
 have e:gmul (nq n) (gint 2 0)=nq (n*2):=by rw [show (gint 2 0)=nq 2 from nq_int 2,nq_mul]
 have hk:¬ FitG (nq (n*2)):=fun h=>h2 (nq_fit.1 h)
 rw [mstr_send,e]
 show SV.tup [.a (.b (.v (.bool false))::gaC (nq (n*2))),.c (.b (.v (.int .i64 (gaK (nq (n*2))))))]=_
 rw [(ga_not hk).1,(ga_not hk).2]
 rfl)
end
noncomputable def meSlide:Spec Tryz.prog:=(sSlide fit10).conv (meT (mslide (gint 1 0))) (ma_tup (mslide_fit fit10))
theorem me256 {j:Nat} (h:j≤256):FitG (nq j):=by
 rw [nq_fit]
 by_cases h2:j<256
 · have:=fit_int (n:=(j:Int)) (m:=0) (by omega) (by decide)
   rw [nq_int] at this
   exact nq_fit.1 this
 · obtain rfl:j=256:=by omega
   exact Nat.le_of_ble_eq_true (by kernel_rfl)
noncomputable def mePow:Spec Tryz.prog:=msPower (mslide_may fit10) (fun j=>mslide (nq j)) (by
 show mslide (nq 0)=mstill false
 rw [← nq_int]
 exact mq_ext rfl g00 g00 rfl rfl) (fun j=>by
 show mslide (nq (j+1))=mcmp (mslide (gint 1 0)) (mslide (nq j))
 rw [show gint 1 0=nq 1 from nq_int 1,mslide_cmp]
 congr 1
 refine GQ.ext2 ?_ ?_
 · show ((j+1:Nat):Rat)=((1:Nat):Rat)+(j:Rat)
   rw [Rat.natCast_add]
   grind
 · show (0:Rat)=0+0
   grind) (n:=256) (by decide) (fun j hj=>mslide_fit (me256 hj))
noncomputable def mePowNo:Spec Tryz.prog:=msPowerNo (mslide_may fit10) (n:=257) (by decide) (by decide)
theorem meNoFrac (h:¬ (twS 1024 1).size≤1024):¬ IsFrac (rawV false false (twS 1024 1) ⟨#[1]⟩):=fun k=>by
 unfold rawV at k
 rw [isFrac_doc] at k
 exact h k.1.1
def meFr (h:¬ (twS 1024 1).size≤1024) (hl:(twS 1024 1).size≤maxLen):Fr:=⟨⟨false,twS 1024 1,false,⟨#[1]⟩⟩,.no false false (twS 1024 1) ⟨#[1]⟩ (meNoFrac h) hl (by decide),rfl⟩
def meGp (h:¬ (twS 1024 1).size≤1024) (hl:(twS 1024 1).size≤maxLen):Gp:=⟨meFr h hl,frX (Rat.divInt 0 1) fit00.2⟩
def sTwoB:Spec Tryz.prog :=
 Spec.auto Tryz.call91 [.one (mcI 8192)] [] (.one (.a (twC (twS 1024 1)))) [] [eByMk (L:=1025) (by decide),eByPut (xs:=List.replicate 1025 0) (d:=1) (by decide) (by rw [List.length_replicate]; decide),(sIn8 1 0).e,eByStr (L:=1025) (xs:=(List.replicate 1025 0).set 0 1) (by rw [List.length_set,List.length_replicate])] [] 2000 Tryz.func91 hmA (by kernel_rfl) (fun β=>by kernel_rfl)
noncomputable def meStrNo (h:¬ (twS 1024 1).size≤1024) (hl:(twS 1024 1).size≤maxLen):Spec Tryz.prog:=sStretchNo (meGp h hl) rfl
theorem me_ok6 (β:Env) (w:World) (hh:(Ob.box (List.replicate 6 (.b (.v (.int .i64 0)))) 28).holds β w (β 0)) :
  Calls Tryz.prog 82 (([.one (.c (.b (.s 0 0 6 6)))]:List SV).map (SV.den β)).toArray w fun x w'=>x=.returned (.bool true)∧Below w.heap.size w w' :=
 bspec_ok (List.replicate 6 (sNum8 0).e) [] 2000 Tryz.func82 hmA (fun β=>by kernel_rfl) (by kernel_rfl) (fun β=>by kernel_rfl) β w hh
def meOk6:BSpec Tryz.prog :=
 ⟨82,Tryz.call82,[.one (.c (.b (.s 0 0 6 6)))],List.replicate 6 (.b (.v (.int .i64 0))),28,.bool true,me_ok6,by kernel_rfl,fun _=>rfl⟩
noncomputable def mkB (E:TypeId):Bool:=match Tryz.prog.info? E with
 | some i=>i.zero.isSome&&Nat.ble (i.bytes*4097) 281474976710656
 | none=>false
theorem mkB_parts {E:TypeId} (h:mkB E=true):∃ i z,Tryz.prog.info? E=some i∧i.zero=some z∧i.bytes*4097≤281474976710656:=by
 unfold mkB at h
 cases hi:Tryz.prog.info? E with
 | none=>rw [hi] at h; cases h
 | some i =>
  rw [hi] at h
  simp only [Bool.and_eq_true] at h
  obtain ⟨z,hz⟩:=Option.isSome_iff_exists.1 h.1
  exact ⟨i,z,rfl,hz,Nat.le_of_ble_eq_true h.2⟩
theorem lg_make {T E:TypeId} (hu:Tryz.prog.underlying T=some (.slice E)) (hI:mkB E=true)
  (x y:Operand) (β:Env) (w:World) (ρ:Operand→Value) (o:Oper) (n:Nat) (ho:o.op=.makeSlice T x y) (hx:(Op.makeSlice T x y).operands.toList.map ρ=[.int .i64 4097,.int .i64 4097]) :
  ∃ (ys:List Pl) (w':World),fresh β w [] ys∧(execOp ρ o).run Tryz.prog w=.ok (.value ((SV.one (.c (.b (.y n 0 4097)))).den (extE β n ys))) w'∧newHold w' [anyT] ys∧Below w.heap.size w w':=by
 have h3:ρ x=.int .i64 4097∧ρ y=.int .i64 4097:=by simpa [Op.operands] using hx
 obtain ⟨i0,z,hi,hz0,hz2⟩:=mkB_parts hI
 have hr:=run_make (P:=Tryz.prog) w T E i0 z hu hi hz0 .i64 .i64 4097 4097 (by decide) (by decide) (by omega) (by decide)
 refine ⟨[⟨w.heap.size,fun _=>some ⟨w.heap.size,0,none⟩,fun _=>4097,fun c=>c=w.heap.size,fun _=>undef⟩],w.alloc (.cells (madeCells z.cells ((4097:Int).toNat*i0.size)) E),?_,?_,⟨?_,trivial⟩,(Below.refl _ w).alloc (Nat.le_refl _) _⟩
 · intro x hx c hc
   rw [List.mem_singleton.1 hx] at hc
   exact .inl (Nat.le_of_eq hc.symm)
 · have e:(SV.one (.c (.b (.y n 0 4097)))).den (extE β n [(⟨w.heap.size,fun _=>some ⟨w.heap.size,0,none⟩,fun _=>4097,fun c=>c=w.heap.size,fun _=>undef⟩:Pl)])=.slice (some ⟨w.heap.size,0,none⟩) 4097 4097:=by
    have:=extE_in (β:=β) (n:=n) (xs:=[(⟨w.heap.size,fun _=>some ⟨w.heap.size,0,none⟩,fun _=>4097,fun c=>c=w.heap.size,fun _=>undef⟩:Pl)]) (i:=0) rfl
    simp only [Nat.add_zero] at this
    simp only [SV.den,SC.den,Lf.den,Lf0.den,this]
   rw [e]
   unfold execOp
   rw [ho]
   dsimp only
   rw [h3.1,h3.2]
   simp [go_sem,hr]
 · intro c hc
   have hc:c=w.heap.size:=hc
   rw [hc,size_alloc]
   omega
noncomputable def eLong {T E:TypeId} (hu:Tryz.prog.underlying T=some (.slice E)) (hI:mkB E=true):Ev Tryz.prog:=.dyn (fun o _ _=>match o.op with
 | .makeSlice t _ _=>Nat.beq t T
 | _=>false) fun o _ ob=>match o.op with
 | .makeSlice _ x y=>lit ob.length fun n=>.rd (o.dst.getD 0) (.makeSlice T x y) (fun _=>[.int .i64 4097,.int .i64 4097]) [] n (.one (.c (.b (.y n 0 4097)))) [anyT] (fun β w _ ρ o ho hx=>lg_make hu hI x y β w ρ o n ho hx)
 | _=>.cut
def meLong:Spec Tryz.prog :=
 Spec.auto Tryz.call87 [.one (.c (.b (.y 0 0 4097)))] [anyT] (.tup [mob0,mcI 3]) [] [] [] 400 Tryz.func87 hmA (by kernel_rfl) (fun β=>by kernel_rfl)
def meLongI:Spec Tryz.prog :=
 Spec.auto Tryz.call72 [.one (.a (mCl (mid false))),.one (.c (.b (.y 0 0 4097)))] [anyT] (.tup [.c (.b (.v (.slice none 0 0))),mcI 3]) [] [] [] 400 Tryz.func72 hmA (by kernel_rfl) (fun β=>by kernel_rfl)
theorem mkB_mob:mkB MOB=true:=by kernel_rfl
theorem mkB_pt:mkB 39=true:=by kernel_rfl
section
variable {n:Nat} (hn:0<n) (h1:(mag n).size≤1024) (hC:twS 1023 128=mag n) (hq:¬ (mag (n*n)).size≤1024) (h2:¬ (mag (n*2)).size≤1024)
 (hB:¬ (twS 1024 1).size≤1024) (hl:(twS 1024 1).size≤maxLen)
def eqMe256:Ev Tryz.prog:=eqEvG (fR (nq 256).re) (fR (nq 256).im) (fR (gint 256 0).re) (fR (gint 256 0).im) true (by rw [show gint 256 0=nq 256 from nq_int 256]; exact geq_self2 _ _)
noncomputable def meE:List (Ev Tryz.prog) :=
 [(meTwo hC).e,(meStr hn h1).e,(meCompN hn h1 hq).e,(meInv hn h1).e,(meCompY hn h1).e,(sIn8 1 0).e,meSlide.e,mePow.e,mePowNo.e,sTwoB.e,(meStrNo hB hl).e,(meComp3 hn h1 hq).e,
  (sIn8 1 0).e,(meAt1 hn h1).e,(sIn8 2 0).e,(meAt2 hn h1 h2).e,meOk6.e,eqM0,(sNum8 4).e,sOne.e,eqMC (mid false),(sIn8 256 0).e,eqMe256,eqM0,(sNum8 2).e,eqM0,(sNum8 2).e,eqM0,(sNum8 4).e,(meTwo hC).e,eqEvG (fR (nq n).re) (fR (nq n).im) (fR (nq n).re) (fR (nq n).im) true (geq_self2 _ _),eqEvP false false r40 r40 r40 r40 true (by kernel_rfl),(sNum8 4).e,
  eLong (T:=110) (E:=MOB) Tryz.underlying110 mkB_mob,meLong.e,sOne.e,eLong (T:=84) (E:=39) Tryz.underlying84 mkB_pt,meLongI.e,eqM0,(sNum8 3).e,(sNum8 3).e,sWorks.e]
noncomputable def meLaw:Spec Tryz.prog :=
 Spec.auto Tryz.call10 [] [] (.one (.c (.b (.v (.bool true))))) [] (meE hn h1 hC hq h2 hB hl) [(10,13008009),(11,14008009),(15,7)] 4000 Tryz.func10 hmA (by kernel_rfl) (fun β=>by kernel_rfl)
end
theorem twN_pos {k d:Nat} (h:0<d):0<twN k d:=Nat.mul_pos (Nat.pow_pos (by decide)) h
theorem tw_sq (k:Nat):twN k 128*twN k 128=twN (k+k+1) 64:=by
 unfold twN
 rw [Nat.pow_succ,Nat.pow_add]
 generalize 256^k=a
 rw [show 128=2*64 from rfl,show 256=4*64 from rfl]
 rw [Nat.mul_mul_mul_comm,Nat.mul_assoc (a*a)]
theorem tw_two (k:Nat):twN k 128*2=twN (k+1) 1:=by
 unfold twN
 rw [Nat.pow_succ]
 generalize 256^k=a
 omega
theorem tw_size {k d:Nat} (h0:0<d) (h:d<256):(mag (twN k d)).size=k+1:=mag_len h0 h k
noncomputable def meLawS:Spec Tryz.prog:=meLaw (n:=twN 1023 128) (twN_pos (by decide)) (Nat.le_of_eq (tw_size (by decide) (by decide))) (twS_mag (by decide) (by decide))
 (fun h=>by rw [tw_sq,tw_size (by decide) (by decide)] at h; omega)
 (fun h=>by rw [tw_two,tw_size (by decide) (by decide)] at h; omega)
 (fun h=>by rw [twS_mag (by decide) (by decide),tw_size (by decide) (by decide)] at h; omega)
 (by rw [twS_mag (by decide) (by decide),tw_size (by decide) (by decide)]; decide)
theorem _root_.Go.Proofs.YtdiemgedlfnlmaaGreat.MobEdges_walk (w:World):Calls Tryz.prog 10 #[] w fun e w'=>e=.returned (.bool true)∧Below w.heap.size w w':=by
 refine (meLawS.ok (fun _=>nilPl) w (fun k t h=>by cases k<;>cases h)).mono ?_
 rintro e w' ⟨xs,_,he,_,hb⟩
 exact ⟨he,hb⟩
end Go.Proofs.YtdiemgedlfnlmaaGreat.Y
end
