/- Near, Nst, Txt, GsT, CiA, CiB, CiC, CiD, G1, MtD, MtI, RRv, MtN, MpM, MpR, GpD, GpE, GpL, GpW, Open, OpnB, OpnG. -/
import Derived.ProofKit
import Derived.OpenShut
import Derived.ShutString
import Derived.ChangeOld
import Derived.Below
import Derived.Test.YtmfedaakeeiolaaGreatRk12
set_option linter.unnecessarySimpa false
set_option linter.unusedVariables false
set_option linter.unusedSimpArgs false
section
namespace Go.Proofs.YtmfedaakeeiolaaGreat
open Go.RowKit
theorem sz_i64 {n:Int} (h : -9223372036854775808≤n∧n≤9223372036854775807):sz n≤8:=by
 rw [sz_le]
 have:n.natAbs≤9223372036854775808:=by omega
 exact Nat.lt_of_le_of_lt this (by decide)
theorem okn_i64 {n:Int} (h : -9223372036854775808≤n∧n≤9223372036854775807):Okn n:=okn_size (Nat.le_trans (sz_i64 h) (by decide))
theorem sz_half:Sz 1 (Rat.divInt 1 2):=sz_divInt (by decide) (sz_le.2 (by decide)) (sz_le.2 (by decide))
set_option maxHeartbeats 1600000 in
set_option maxRecDepth 100000 in
theorem WText_any {w0:World} (b:Bool) (s:ByteArray) (hs:s.size≤4294967296) :
  Calls Tryz.prog 240 #[.agg #[.bool b,.string s]] w0 fun e w'=>∃ u k,e=.returned (.tuple #[.string u,.int .i64 k])∧(WholeOk b s∧u=textN (numOf b s)∧k=0∨¬ WholeOk b s∧u=⟨#[]⟩∧k=2)∧Below w0.heap.size w0 w':=by
 have HS:=Lib.hid hs
 have h1:=below_new w0 (.cells #[.bool b,.string s] 23)
 have h2:=below_new (w0.alloc (.cells #[.bool b,.string s] 23)) (.cells #[.bool b,.string s] 23)
 have HB:=Lib.hid (h1.trans (h2.mono h1.size))
 have HX:=Lib.hid (BoxAt.new_at (w:=w0.alloc (.cells #[.bool b,.string s] 23)) #[.bool b,.string s] 23 (size_alloc w0 _).symm)
 clear hs h1 h2
 go_enter Tryz.func240,Tryz.ntmps240
 go_wp2_with fail
 refine (of_one b s HS.out HX.out).mono ?_
 rintro e w1 ⟨h,hb⟩
 have HB1:=Lib.hid (HB.out.trans (hb.mono HB.out.size))
 clear hb
 rcases h with ⟨ho,g,cap,p,rfl,hc,hi⟩ | ⟨ho,rfl⟩
 · have HO:=Lib.hid ho
   have HI:=Lib.hid hi
   have KT:Hid (Okt (numOf b s)):=by
    have h3:(mag (numOf b s).natAbs).size≤16384:=by rw [(numOf_ok ho).2.1]; exact ho.2
    have:=wl_size h3
    unfold Hid Okt
    omega
   clear ho hi
   go_wp2_with fail
   refine (String_any HI.out KT.out).mono ?_
   rintro e w2 ⟨rfl,hb⟩
   have HB2:=Lib.hid (HB1.out.trans (hb.mono HB1.out.size))
   clear hb hc
   go_wp2
   go_ret2
   exact ⟨_,_,rfl,.inl ⟨HO.out,rfl,rfl⟩,HB2.out⟩
 · have HO:=Lib.hid ho
   clear ho
   go_wp2
   go_ret2
   exact ⟨_,_,rfl,.inr ⟨HO.out,rfl,rfl⟩,HB1.out⟩
theorem textN_len (n:Int):(textN n).size≤32*(dig n.natAbs).length+1:=by
 rw [textN_size]
 unfold txt
 have:=dd_len_words n.natAbs
 split
 · simp
 · rw [List.length_reverse,List.length_append]
   split<;>simp<;>omega
theorem textN_small {n:Int} (h:(mag n.natAbs).size≤16384):(textN n).size≤200000:=by
 have h1:=textN_len n
 have h2:=wl_size h
 omega
def textQ (x:Rat):ByteArray:=if x.den=1 then textN x.num else textN x.num++(⟨#[47]⟩++textN (x.den:Int))
def TextAns (va:Value) (u:ByteArray) (k:Int):Prop:=(∃ x,Fit x∧va=fracV x∧u=textQ x∧k=0)∨(¬ IsFrac va∧u=⟨#[]⟩∧k=2)
theorem parts_den {b c:Bool} {s t:ByteArray} {x:Rat} (h:FracParts b s c t x):c=false∧t=mag x.den∧WholeOk false t∧numOf false t=(x.den:Int):=by
 have h2:=(isFrac_parts h.isFrac).2.1
 obtain ⟨rfl,rfl,rfl,rfl⟩:=agg4 h.val
 refine ⟨rfl,rfl,h2,?_⟩
 have:=numOf_mag (x.den:Int)
 rwa [show decide ((x.den:Int)<0)=false by simp,Int.natAbs_natCast] at this
set_option maxHeartbeats 3200000 in
set_option maxRecDepth 100000 in
theorem FText_any {w0:World} (b c:Bool) (s t:ByteArray) (hs:s.size≤maxLen) (ht:t.size≤maxLen) :
  Calls Tryz.prog 110 #[.agg #[.bool b,.string s,.bool c,.string t]] w0 fun e w'=>∃ u k,e=.returned (.tuple #[.string u,.int .i64 k])∧TextAns (.agg #[.bool b,.string s,.bool c,.string t]) u k∧Below w0.heap.size w0 w':=by
 have HS:=Lib.hid hs
 have HT:=Lib.hid ht
 have HW0:=Lib.hid (below_new w0 (.cells #[.bool b,.string s,.bool c,.string t] 25))
 have HX0:=Lib.hid (BoxAt.new w0 #[.bool b,.string s,.bool c,.string t] 25)
 clear hs ht
 go_enter Tryz.func110,Tryz.ntmps110
 go_wp2_with fail
 refine (May_any b c s t HS.out HT.out).mono ?_
 rintro e w1 ⟨r,rfl,hr,hb⟩
 have HX1:=Lib.hid (HX0.out.on hb)
 have HW1:=Lib.hid (HW0.out.trans (hb.mono HW0.out.size))
 have HR:=Lib.hid hr
 clear hb hr
 cases r
 · go_wp2
   go_ret2
   exact ⟨_,_,rfl,.inr ⟨fun h=>Bool.noConfusion (HR.out.2 h),rfl,rfl⟩,HW1.out⟩
 obtain ⟨x,hx⟩:=parts_of (by first | exact HR.out.1 rfl | exact HR.out.1 trivial)
 have HX:=Lib.hid hx
 obtain ⟨rfl,ht2,ho2,hn2⟩:=parts_den hx
 have HT2:=Lib.hid ht2
 have HO2:=Lib.hid ho2
 have HN2:=Lib.hid hn2
 have hc0:=HX1.out.cell 0 (.bool b) rfl
 have hc1:=HX1.out.cell 1 (.string s) rfl
 clear hx HR ht2 ho2 hn2
 go_wp2_with fail
 refine (WText_any b s HX.out.hs).mono ?_
 rintro e w2 ⟨un,k,rfl,hu,hb⟩
 have HU:Hid (un=textN x.num):=by
  obtain ⟨h1,h2⟩:=fracV_num HX.out
  rcases hu with h | h
  · rw [← h2]; exact h.2.1
  · exact absurd h1 h.1
 have HX2:=Lib.hid (HX1.out.on hb)
 have HW2:=Lib.hid (HW1.out.trans (hb.mono HW1.out.size))
 clear hu hb hc0 hc1
 go_wp2
 refine wp_region_acts 4 (fun w'=>Below w0.heap.size w0 w'∧BoxAt w' w0.heap.size #[.bool b,.string s,.bool false,.string t] 25) (fun w w'=>Below w.heap.size w w') (fun i w v=>match i with
   | 0=>v=.pointer (some ⟨w0.heap.size,2,none⟩)
   | 1=>v=.agg #[.bool false,.string t]
   | 2=>∃ g,v=.pointer (some ⟨g,0,none⟩)∧IntAt w g 0 1
   | _=>∃ s',v=.agg #[.bool false,.string s']∧Hid (s'=mag 1)) (by kernel_rfl) (by kernel_rfl) (by kernel_rfl) ⟨HW2.out.drew,HX2.out⟩ (fun _ _=>(Below.refl _ _)) ?_ ⟨?_,?_,?_,?_,trivial⟩ ?_
 · intro i w1 w2 v hC hC2 hE hV
   match i with
   | 0=>exact hV
   | 1=>exact hV
   | 2=>obtain ⟨g,e,h⟩:=hV; exact ⟨g,e,h.on hE⟩
   | _+3=>exact hV
 · intro a' w' hag hC hd K hK
   have e1:a'.tmps.getD 1 undef=.pointer (some ⟨w0.heap.size,0,none⟩):=hag 1 rfl
   go_step
   exact hK _ _ hC ((Below.refl _ _)) rfl
 · intro a' w' hag hC hd K hK
   have e17:a'.tmps.getD 17 undef=.pointer (some ⟨w0.heap.size,2,none⟩):=hd.1
   have hc0:=hC.2.cell 2 (.bool false) rfl
   have hc1:=hC.2.cell 3 (.string t) rfl
   have HK:=Lib.hid (hK (.agg #[.bool false,.string t]) _ hC (Below.refl _ _) rfl)
   clear hK hC
   go_step
   exact HK.out
 · intro a' w' hag hC hd K hK
   go_step
   refine (NewInt_any (n:=1) (by decide)).mono ?_
   rintro e w2 ⟨g,rfl,hg,h1,h2⟩
   exact hK _ _ ⟨hC.1.trans (h2.mono hC.1.size),hC.2.on h2⟩ h2 ⟨_,rfl,h1⟩
 · intro a' w' hag hC hd K hK
   obtain ⟨g19,e19,h19⟩:=hd.1
   have e19:a'.tmps.getD 19 undef=.pointer (some ⟨g19,0,none⟩):=e19
   go_step
   refine (back_agg h19 (okn_i64 (by decide))).mono ?_
   rintro e w2 ⟨p,s',rfl,h1,h2,hb⟩
   have hp:p=false:=by rw [h1.out]; rfl
   subst hp
   exact hK _ _ ⟨hC.1.trans (hb.mono hC.1.size),hC.2.on hb⟩ hb ⟨s',rfl,h2⟩
 · intro u w' hC hall
   obtain ⟨u0,u1,u2,u3,_⟩:=hall
   have u0:u 0=.pointer (some ⟨w0.heap.size,2,none⟩):=u0
   have u1:u 1=.agg #[.bool false,.string t]:=u1
   obtain ⟨s20,eu3,hs20⟩:=u3
   have u3:u 3=.agg #[.bool false,.string s20]:=eu3
   simp only [fillR,List.take_succ_cons,List.take_zero,Act.put,List.setIfInBounds_toArray,List.set_cons_succ,List.set_cons_zero,Nat.zero_add,Nat.reduceAdd,u0,u1,u3]
   clear u0 u1 u3
   have HC:=Lib.hid hC.1
   have HX3:=Lib.hid hC.2
   clear hC
   by_cases hd:t.toList=s20.toList
   · have HD:Hid (x.den=1):=by
      have h1:=toList_inj.1 hd
      rw [HT2.out,hs20.out] at h1
      exact mag_inj h1
     go_wp2
     go_ret2
     exact ⟨_,_,rfl,.inl ⟨x,HX.out.fit,HX.out.val,by rw [textQ,if_pos HD.out]; exact HU.out,rfl⟩,HC.out⟩
   · have HD:Hid (¬ x.den=1):=fun e=>hd (by rw [HT2.out,hs20.out,e])
     have hc0:=HX3.out.cell 2 (.bool false) rfl
     have hc1:=HX3.out.cell 3 (.string t) rfl
     go_wp2_with fail
     refine (WText_any false t HX.out.ht).mono ?_
     rintro e w4 ⟨u2,k2,rfl,hu,hb⟩
     have HU2:Hid (u2=textN (x.den:Int)):=by
      rcases hu with h | h
      · rw [← HN2.out]; exact h.2.1
      · exact absurd HO2.out h.1
     have HB:=Lib.hid (HC.out.trans (hb.mono HC.out.size))
     have hu1:un.size≤200000:=by rw [HU.out]; exact textN_small (Nat.le_trans HX.out.fit.1 (by decide))
     have hu2:u2.size≤200000:=by rw [HU2.out]; exact textN_small (by rw [Int.natAbs_natCast]; exact Nat.le_trans HX.out.fit.2 (by decide))
     have hu3:((⟨#[47]⟩:ByteArray)++u2).size≤200001:=by rw [ByteArray.size_append]; show 1+u2.size≤_; omega
     clear hu hb hc0 hc1
     go_wp2
     go_ret2
     exact ⟨_,_,rfl,.inl ⟨x,HX.out.fit,HX.out.val,by rw [textQ,if_neg HD.out,← HU.out,← HU2.out],rfl⟩,HB.out⟩
end Go.Proofs.YtmfedaakeeiolaaGreat
end
section
namespace Go.Proofs.YtmfedaakeeiolaaGreat.Y
open Go Go.RowKit
set_option maxRecDepth 100000
def sFText {x:Rat} (h:Fit x) {u:ByteArray} (hu:textQ x=u):Spec Tryz.prog :=
 ⟨110,Tryz.call110,[.one (.a (fC x))],[],.tup [.c (.b (.v (.string u))),nI' 0],[],fun β w hh=>by
  refine (FText_any (decide (x.num<0)) false (mag x.num.natAbs) (mag x.den) (Nat.le_trans h.1 (by decide)) (Nat.le_trans h.2 (by decide))).mono ?_
  rintro e w' ⟨v,k,rfl,⟨y,_,hy,rfl,rfl⟩ | ⟨hn,_⟩,hb⟩
  · obtain rfl:x=y:=fracV_inj hy
    rw [hu]
    exact ⟨[],(fun _ h=>by cases h),rfl,trivial,hb⟩
  · exact absurd (fitF x h) hn,by kernel_rfl⟩
abbrev zb:GQ:=⟨Rat.divInt 1 2,Rat.divInt (-1) 2⟩
theorem zb_fit:FitG zb:=fit_small (by decide +kernel) (by decide +kernel) (by decide +kernel) (by decide +kernel)
theorem zb_eq:gdiv (gint 1 0) (gint 1 1)=zb:=by
 have h1:decide ((gdiv (gint 1 0) (gint 1 1)).re=zb.re)=true:=by kernel_rfl
 have h2:decide ((gdiv (gint 1 0) (gint 1 1)).im=zb.im)=true:=by kernel_rfl
 exact congr (congrArg GQ.mk (of_decide_eq_true h1)) (of_decide_eq_true h2)
abbrev tre:ByteArray:=⟨#[49,47,50]⟩
abbrev tim:ByteArray:=⟨#[45,49,47,50]⟩
theorem tre_eq:textQ zb.re=tre:=by kernel_rfl
theorem tim_eq:textQ zb.im=tim:=by kernel_rfl
noncomputable def sGTextB:Spec Tryz.prog :=
 Spec.auto Tryz.call159 [gS zb] [] (.tup [.c (.b (.v (.string ⟨#[49,47,50,45,49,47,50,105]⟩))),nI' 0]) []
  [(sGM (gpX zb zb_fit) (r:=true) rfl).e,(sFText zb_fit.1 tre_eq).e,(sFText zb_fit.2 tim_eq).e] [] 400 Tryz.func159 hmA (by kernel_rfl) (fun β=>by kernel_rfl)
noncomputable def sGRealNo (a:Gn) (h:a.B=false):Spec Tryz.prog :=
 Spec.auto Tryz.call161 [gnS a] [] (tB' false) [] [(sGM a.gp (r:=false) (a.gpB.trans h)).e] [(1,9)] 400 Tryz.func161 hmA (by kernel_rfl) (fun β=>by kernel_rfl)
theorem no_frac:¬ IsFrac (rawV false false ⟨#[]⟩ ⟨#[]⟩):=fun h=>by
 unfold rawV at h
 rw [isFrac_doc] at h
 exact absurd h.2.2.2.1 (by decide)
def noFr:Fr:=⟨r40,.no false false ⟨#[]⟩ ⟨#[]⟩ no_frac (by decide) (by decide),rfl⟩
def noGn:Gn:=.no ⟨noFr,frX (Rat.divInt 0 1) fit00.2⟩ rfl
theorem ga_eq {z w:GQ} (e:z=w) (h:FitG w):SV.tup [.a (gaC z),nI' (gaK z)]=.tup [.a (gC w),nI' 0]:=by
 rw [e,(ga_fit h).1,(ga_fit h).2]
theorem f11:FitG (gint 1 1):=fit_int (by decide) (by decide)
theorem f12:FitG (gint 1 2):=fit_int (by decide) (by decide)
theorem f31:FitG (gint 3 (-1)):=fit_int (by decide) (by decide)
theorem f55:FitG (gint 5 5):=fit_int (by decide) (by decide)
theorem mul55:gmul (gint 1 2) (gint 3 (-1))=gint 5 5:=by
 have h1:decide ((gmul (gint 1 2) (gint 3 (-1))).re=(gint 5 5).re)=true:=by kernel_rfl
 have h2:decide ((gmul (gint 1 2) (gint 3 (-1))).im=(gint 5 5).im)=true:=by kernel_rfl
 exact congr (congrArg GQ.mk (of_decide_eq_true h1)) (of_decide_eq_true h2)
noncomputable def kMul:Spec Tryz.prog:=(sGMul f12 f31).conv (.tup [.a (gC (gint 5 5)),nI' 0]) (ga_eq mul55 f55)
noncomputable def kDiv:Spec Tryz.prog:=(sGDiv fit10 f11 (by kernel_rfl)).conv (.tup [.a (gC zb),nI' 0]) (ga_eq zb_eq zb_fit)
noncomputable def kSq:Spec Tryz.prog:=sGSqrt34.conv (.tup [.a (gC (gint 1 2)),nI' 0]) (ga_eq s34_eq f12)
noncomputable def kDiv0:Spec Tryz.prog:=sGDiv0 fit10 fit00 (by kernel_rfl)
noncomputable def kPow:Spec Tryz.prog:=sGPow fit00 (by kernel_rfl)
def eqGz (z:GQ):Ev Tryz.prog:=eqEvG (fR z.re) (fR z.im) (fR z.re) (fR z.im) true (geq_self2 _ _)
noncomputable def sKnown4:Spec Tryz.prog :=
 Spec.auto Tryz.call42 [] [] (tB' true) []
  [(sR4Int 1 2).e,(sR4Int 3 (-1)).e,kMul.e,(sR4Int 1 0).e,(sR4Int 1 1).e,kDiv.e,(sR4Int (-3) 4).e,kSq.e,(sR4Int 2 0).e,sGSqrt20.e,sGTextB.e,(sR4Int 1 0).e,(sR4Int 0 0).e,kDiv0.e,(sR4Int 0 0).e,kPow.e,
   (sNum4 5).e,(sNum4 5).e,(sR4Int 0 0).e,(sGRealNo noGn rfl).e,(sR4Int 5 5).e,eqGz (gint 5 5),(sNum4 0).e,(sNum4 0).e,(sNum4 0).e,(sR4Int 1 2).e,eqGz (gint 1 2),(sNum4 0).e,(sNum4 7).e]
  [(8,53)] 3000 Tryz.func42 hmA (by kernel_rfl) (fun β=>by kernel_rfl)
abbrev KC:Nat:=1000000
structure RQ where
 a:Rat
 b:GQ
 c:Rat
structure RSz (k:Nat) (r:RQ):Prop where
 a:Sz k r.a
 b:GSz k r.b
 c:Sz k r.c
def rbyQ (i j:Bool) (r:RQ):Rat:=bif i then (bif j then r.b.im else r.b.re) else r.a
section
variable {r:RQ} (h:RSz KC r) {i j:Bool} (hi:decide (r.a=0)=i) (hj:decide (r.b.re=0)=j) (h0:rbyQ i j r≠0)
include h hi hj h0
end
inductive Fn where
 | ok (x:Rat) (h:Fit x)
 | no (f:Fr) (h:f.a.B=false)
def Fn.fr:Fn→Fr
 | .ok x h=>frX x h
 | .no f _=>f
def Fn.r (a:Fn):R4:=a.fr.r
abbrev KD5:Nat:=5000
def sR3Small (n m:Int) (hn : -9223372036854775808≤n∧n≤9223372036854775807) (hm : -9223372036854775808≤m∧m≤9223372036854775807) (h0:m≠0) (sn:sz n≤1000000000) (sm:sz m≤1000000000):Spec Tryz.prog :=
 Spec.auto Tryz.call182 [.one (svI n),.one (svI m)] [] (.one (.a (fC (Rat.divInt n m)))) [] [eWOf n hn,eWOf m hm,eFOf sn sm h0] [] 400 Tryz.func182 hmA (by kernel_rfl) (fun β=>by kernel_rfl)
def sR4MayG (a:Gn) {r:Bool} (h:a.B=r):Spec Tryz.prog :=
 (sR4May a.gp.a.a a.gp.b.a).as [gnS a] (tB' r) (by
  show [SV.one (.a (a.gp.a.a.C++a.gp.b.a.C))]=[SV.one (.a (rL a.gp.a.r++rL a.gp.b.r))]
  rw [show a.gp.a.a.C=rL a.gp.a.r from a.gp.a.e,show a.gp.b.a.C=rL a.gp.b.r from a.gp.b.e]) (congrArg tB' (a.gpB.trans h))
abbrev fcS (x:Rat):SV:=.one (.a (fC x))
abbrev rg (x:Rat):GQ:=⟨x,0⟩
def wy0 (f:RQ):GQ:=gadd (rg f.b.re) (gmul (rg f.b.im) (gint 0 1))
def wayQ (f:RQ):GQ:=gconj (wy0 f)
abbrev KI:Nat:=300
def cuN (l:RQ):Rat:=gnorm (wayQ l)
def sRMade0:Spec Tryz.prog :=
 ⟨247,Tryz.call247,[.one (.c (.b (.v (.bool false)))),nilW],[],whS 0,[],fun β w hh=>by
  refine (made_any false (Words.nil w) (by decide)).mono fun e w' ⟨he,hb⟩=>⟨[],(fun _ h=>by cases h),?_,trivial,hb⟩
  rw [he,show sg false (val [])=((0:Nat):Int) from rfl,whole_nat]
  rfl,by kernel_rfl⟩
def sRProd0:Spec Tryz.prog :=
 ⟨260,Tryz.call260,[nilW,nilW],[],wdS 0 0,[wdT 0],fun β w hh=>by
  refine (rproduct_any (Words.nil w) (Words.nil w) (by decide) (by decide)).mono fun e w' ⟨v,he,hv,hb⟩=>?_
  obtain ⟨A,c,rfl,h2⟩:=wd_of hv
  exact ⟨[wdPl A c],wd_fresh,by rw [he]; rfl,⟨h2,trivial⟩,hb⟩,by kernel_rfl⟩
theorem bits0:Bits 0 0:=⟨by decide,fun h=>absurd h (by decide)⟩
theorem dl1:dgL (2^0)≤8589934592:=Nat.le_trans (dig_len_le 1 1 (by decide)) (by decide)
theorem dl0:dgL 0≤4294967296:=Nat.le_trans (dig_len_le 0 0 (by decide)) (by decide)
theorem mg0:(mag 0).size≤4294967296:=by rw [mag_zero]; decide
def sRRoot0:Spec Tryz.prog :=
 Spec.auto Tryz.call288 [whS 0] [] (rtRes 0 0) []
  [(sRWords 0 mg0).e,(sRBits bits0).e,(sRUp1 0 (by decide)).e,(sRMore0 dl1).e,(sRProd dl1).e,(sRUnder (2^0*2^0) 0).e,sRMade0.e,sRProd0.e,(sRLess (x:=0) (y:=0) (Nat.le_trans dl0 (by decide)) (Nat.le_refl 0)).e,(sRMade (x:=0-0) dl0).e] [] 800 Tryz.func288 hmA (by kernel_rfl) (fun β=>by kernel_rfl)
theorem rootA_ok {n R:Nat} (hm:(mag n).size≤4294967296) (hd:dgL n≤4294967290) (hR1:R*R≤n) (hR2:n<(R+1)*(R+1)) (β:Env) (w:World) (hh:∀ (k:Nat) (t:Thing),([]:List Thing)[k]?=some t→t.D w (β k)) :
  Calls Tryz.prog 288 (([whS n]:List SV).map (SV.den β)).toArray w fun e w'=>∃ xs:List Pl,freshS β w 0 xs∧e=.returned ((rtRes R (n-R*R)).den (extE β 0 xs))∧newHold w' [] xs∧Below w.heap.size w w':=by
 rcases Nat.eq_zero_or_pos n with rfl | hn
 · obtain rfl:R=0:=by
    rcases Nat.eq_zero_or_pos R with h | h
    · exact h
    · have:=Nat.mul_pos h h
      omega
   exact sRRoot0.ok β w hh
 · exact (sRRoot hn hm hd hR1 hR2).ok β w hh
def sRRootA {n R:Nat} (b:Bool) (hb:b=false) (hm:(mag n).size≤4294967296) (hd:dgL n≤4294967290) (hR1:R*R≤n) (hR2:n<(R+1)*(R+1)):Spec Tryz.prog :=
 ⟨288,Tryz.call288,[.one (.a [.b (.v (.bool b)),.b (.v (.string (mag n)))])],[],rtRes R (n-R*R),[],fun β w hh=>by
  subst hb
  exact rootA_ok hm hd hR1 hR2 β w hh,by kernel_rfl⟩
def sRSgn (m:Nat) {b:Bool} (hb:decide (m=0)=b):Spec Tryz.prog :=
 ⟨256,Tryz.call256,[whS m],[],.one (.c (.b (.v (.int .i64 (bif b then 0 else 1))))),[],fun β w hh=>by
  have h1:=rsign_w (w:=w) (p:=false) (s:=mag m) (n:=(m:Int)) (whole_nat m).symm
  refine h1.mono fun e w' ⟨he,hbb⟩=>⟨[],(fun _ h=>by cases h),?_,trivial,hbb⟩
  rw [he]
  cases b with
  | true =>
   obtain rfl:m=0:=of_decide_eq_true hb
   rfl
  | false =>
   have:0<m:=Nat.pos_of_ne_zero (of_decide_eq_false hb)
   rw [Int.sign_eq_one_of_pos (by omega:(0:Int)<(m:Int))]
   rfl,by kernel_rfl⟩
section
variable {x:Rat} (h0:0≤x.num) {R S:Nat} (hm:(mag x.num.natAbs).size≤4294967296) (hd:dgL x.num.natAbs≤4294967290) (hm':(mag x.den).size≤4294967296) (hd':dgL x.den≤4294967290)
 (hR1:R*R≤x.num.natAbs) (hR2:x.num.natAbs<(R+1)*(R+1)) (hS1:S*S≤x.den) (hS2:x.den<(S+1)*(S+1))
noncomputable def sq3E:List (Ev Tryz.prog) :=
 [(sR3Sign (x:=x) rfl).e,.eqv 10 (.bool (decide (x.num.sign<0))) (.bool false) (nat_sign (n:=x.num.natAbs) (by omega)),(sRRootA (decide (x.num<0)) (decide_eq_false (by omega)) hm hd hR1 hR2).e,(sRRootA false rfl hm' hd' hS1 hS2).e]
noncomputable def sR3SqrtY (ha:decide (x.num.natAbs-R*R=0)=true) (hb:decide (x.den-S*S=0)=true):Spec Tryz.prog :=
 Spec.auto Tryz.call180 [.one (.a (fC x))] [] (.tup [.a [.b (.v (.bool false)),.b (.v (.string (mag R))),.b (.v (.bool false)),.b (.v (.string (mag S)))],.c (.b (.v (.bool true)))]) []
  (sq3E h0 hm hd hm' hd' hR1 hR2 hS1 hS2++[(sRSgn _ ha).e,(sRSgn _ hb).e]) [] 800 Tryz.func180 hmA (by kernel_rfl) (fun β=>by kernel_rfl)
noncomputable def sR3SqrtN1 (ha:decide (x.num.natAbs-R*R=0)=false):Spec Tryz.prog :=
 Spec.auto Tryz.call180 [.one (.a (fC x))] [] (.tup [.a (rL r40),.c (.b (.v (.bool false)))]) []
  (sq3E h0 hm hd hm' hd' hR1 hR2 hS1 hS2++[(sRSgn _ ha).e]) [] 800 Tryz.func180 hmA (by kernel_rfl) (fun β=>by kernel_rfl)
noncomputable def sR3SqrtN2 (ha:decide (x.num.natAbs-R*R=0)=true) (hb:decide (x.den-S*S=0)=false):Spec Tryz.prog :=
 Spec.auto Tryz.call180 [.one (.a (fC x))] [] (.tup [.a (rL r40),.c (.b (.v (.bool false)))]) []
  (sq3E h0 hm hd hm' hd' hR1 hR2 hS1 hS2++[(sRSgn _ ha).e,(sRSgn _ hb).e]) [] 800 Tryz.func180 hmA (by kernel_rfl) (fun β=>by kernel_rfl)
end
abbrev KL:Nat:=140
abbrev KK:Nat:=64
theorem rootB_of {x:Rat} (h0:0≤x.num) (hx:Sz 7173 x):∃ a b:Nat,RootB x x.num.natAbs x.den a b:=by
 have key:∀ J:Nat,J≤7173→∀ n:Nat,sz (n:Int)≤J→∃ a:Nat,a*a≤n∧n<(a+1)*(a+1)∧sz (a:Int)≤KS:=fun J hJ n hn=>by
  refine ⟨n.sqrt,Nat.sqrt_le n,Nat.lt_succ_sqrt n,?_⟩
  have h1:n<256^J:=by have:=sz_le.1 hn; rwa [Int.natAbs_natCast] at this
  refine sz_le.2 ?_
  rw [Int.natAbs_natCast]
  obtain ⟨K,hK⟩:∃ K:Nat,K=KS:=⟨_,rfl⟩
  rw [← hK]
  rcases Nat.lt_or_ge n.sqrt (256^K) with h | h
  · exact h
  · exfalso
    have h2:=Nat.mul_le_mul h h
    rw [← Nat.pow_add] at h2
    have h3:=Nat.sqrt_le n
    have h4:256^J≤256^(K+K):=Nat.pow_le_pow_right (by decide) (Nat.le_trans hJ (by rw [hK]; decide))
    exact absurd (Nat.lt_of_le_of_lt (Nat.le_trans h2 h3) h1) (Nat.not_lt.2 h4)
 obtain ⟨a,a1,a2,a3⟩:=key 7173 (Nat.le_refl _) x.num.natAbs (by rw [Int.natAbs_of_nonneg h0]; exact hx.1)
 obtain ⟨b,b1,b2,b3⟩:=key 7173 (Nat.le_refl _) x.den hx.2
 have hp:=x.den_pos
 have hb0:(b:Int)≠0:=by
  rintro e
  obtain rfl:b=0:=by omega
  have:x.den<1:=b2
  omega
 obtain ⟨J,hJ⟩:∃ J:Nat,J=7173:=⟨_,rfl⟩
 have l1:x.num.natAbs<256^J:=sz_le.1 (by rw [hJ]; exact hx.1)
 have l2:x.den<256^J:=by have:=sz_le.1 (show sz (x.den:Int)≤J by rw [hJ]; exact hx.2); rwa [Int.natAbs_natCast] at this
 exact ⟨a,b,(Int.natAbs_of_nonneg h0).symm,rfl,a1,a2,b1,b2,dig_big l1 (by rw [hJ]; decide),dig_big l2 (by rw [hJ]; decide),hb0,a3,b3⟩
theorem sq_pow (q:Rat):q*q=q^2:=by
 rw [Rat.pow_succ,Rat.pow_succ,Rat.pow_zero,Rat.one_mul]
theorem sq_num (q:Rat):(q*q).num=q.num*q.num∧(q*q).den=q.den*q.den:=by
 rw [sq_pow]
 refine ⟨?_,?_⟩
 · rw [Rat.num_pow,Int.pow_succ,Int.pow_succ,Int.pow_zero,Int.one_mul]
 · rw [Rat.den_pow,Nat.pow_succ,Nat.pow_succ,Nat.pow_zero,Nat.one_mul]
theorem nat_sq {a m:Nat} (h1:a*a≤m*m) (h2:m*m<(a+1)*(a+1)):a=m:=by
 rcases Nat.lt_trichotomy a m with h | h | h
 · have:=Nat.mul_le_mul (Nat.succ_le_of_lt h) (Nat.succ_le_of_lt h)
   simp only [Nat.succ_eq_add_one] at this
   omega
 · exact h
 · have:=Nat.mul_lt_mul'' h h
   omega
theorem root_of_sq {x q:Rat} (hq:q*q=x) (h0:0≤q) {a b:Nat} (a1:a*a≤x.num.natAbs) (a2:x.num.natAbs<(a+1)*(a+1)) (b1:b*b≤x.den) (b2:x.den<(b+1)*(b+1)):(a:Int)=q.num∧b=q.den:=by
 obtain ⟨h1,h2⟩:=sq_num q
 rw [hq] at h1 h2
 have hn:0≤q.num:=Rat.num_nonneg.2 h0
 have h3:x.num.natAbs=q.num.natAbs*q.num.natAbs:=by rw [h1,Int.natAbs_mul]
 rw [h3] at a1 a2
 rw [h2] at b1 b2
 have e1:=nat_sq a1 a2
 have e2:=nat_sq b1 b2
 exact ⟨by omega,e2⟩
abbrev KP:Nat:=100000
section
variable {x:Rat} (h0:0≤x.num) (hx:Sz KP x)
include hx in
theorem rq_sz:(mag x.num.natAbs).size≤4294967296∧dgL x.num.natAbs≤4294967290∧(mag x.den).size≤4294967296∧dgL x.den≤4294967290:=by
 have h1:(mag x.num.natAbs).size≤KP:=hx.1
 have h2:(mag x.den).size≤KP:=hx.2
 have d1:(dig x.num.natAbs).length≤(KP+3)/4:=wl_size h1
 have d2:(dig x.den).length≤(KP+3)/4:=wl_size h2
 exact ⟨Nat.le_trans h1 (by decide),Nat.le_trans d1 (by decide),Nat.le_trans h2 (by decide),Nat.le_trans d2 (by decide)⟩
include h0 hx in
theorem rqY_ok {q:Rat} (hq:q*q=x) (q0:0≤q) (β:Env) (w:World) (hh:∀ (k:Nat) (t:Thing),([]:List Thing)[k]?=some t→t.D w (β k)) :
  Calls Tryz.prog 180 (([fcS x]:List SV).map (SV.den β)).toArray w fun e w'=>∃ xs:List Pl,freshS β w 0 xs∧e=.returned ((SV.tup [.a (fC q),.c (.b (.v (.bool true)))]).den (extE β 0 xs))∧newHold w' [] xs∧Below w.heap.size w w':=by
 have z:=rq_sz hx
 obtain ⟨e1,e2⟩:=root_of_sq hq q0 (Nat.sqrt_le _) (Nat.lt_succ_sqrt _) (Nat.sqrt_le _) (Nat.lt_succ_sqrt _)
 obtain ⟨n1,n2⟩:=sq_num q
 rw [hq] at n1 n2
 have hn:0≤q.num:=Rat.num_nonneg.2 q0
 have e3:fC q=[.b (.v (.bool false)),.b (.v (.string (mag x.num.natAbs.sqrt))),.b (.v (.bool false)),.b (.v (.string (mag x.den.sqrt)))]:=by
  unfold fC
  rw [decide_eq_false (by omega:¬ q.num<0),e2,show q.num.natAbs=x.num.natAbs.sqrt by omega]
 rw [e3]
 refine (sR3SqrtY h0 z.1 z.2.1 z.2.2.1 z.2.2.2 (Nat.sqrt_le _) (Nat.lt_succ_sqrt _) (Nat.sqrt_le _) (Nat.lt_succ_sqrt _) (decide_eq_true ?_) (decide_eq_true ?_)).ok β w hh
 · have:x.num.natAbs=x.num.natAbs.sqrt*x.num.natAbs.sqrt:=by
    have h5:x.num.natAbs.sqrt=q.num.natAbs:=by omega
    rw [h5,← Int.natAbs_mul,← n1]
   omega
 · rw [e2,n2]; omega
include h0 hx in
theorem rqN_ok (hq:¬ ∃ q:Rat,q*q=x) (β:Env) (w:World) (hh:∀ (k:Nat) (t:Thing),([]:List Thing)[k]?=some t→t.D w (β k)) :
  Calls Tryz.prog 180 (([fcS x]:List SV).map (SV.den β)).toArray w fun e w'=>∃ xs:List Pl,freshS β w 0 xs∧e=.returned ((SV.tup [.a (rL r40),.c (.b (.v (.bool false)))]).den (extE β 0 xs))∧newHold w' [] xs∧Below w.heap.size w w':=by
 have z:=rq_sz hx
 cases h2:decide (x.num.natAbs-x.num.natAbs.sqrt*x.num.natAbs.sqrt=0) with
 | false=>exact (sR3SqrtN1 h0 z.1 z.2.1 z.2.2.1 z.2.2.2 (Nat.sqrt_le _) (Nat.lt_succ_sqrt _) (Nat.sqrt_le _) (Nat.lt_succ_sqrt _) h2).ok β w hh
 | true =>
  cases h3:decide (x.den-x.den.sqrt*x.den.sqrt=0) with
  | false=>exact (sR3SqrtN2 h0 z.1 z.2.1 z.2.2.1 z.2.2.2 (Nat.sqrt_le _) (Nat.lt_succ_sqrt _) (Nat.sqrt_le _) (Nat.lt_succ_sqrt _) h2 h3).ok β w hh
  | true =>
   refine absurd ⟨Rat.divInt (x.num.natAbs.sqrt:Int) (x.den.sqrt:Int),?_⟩ hq
   have l1:=Nat.sqrt_le x.num.natAbs
   have l2:=Nat.sqrt_le x.den
   have k1:x.num.natAbs.sqrt*x.num.natAbs.sqrt=x.num.natAbs:=by have:=of_decide_eq_true h2; omega
   have k2:x.den.sqrt*x.den.sqrt=x.den:=by have:=of_decide_eq_true h3; omega
   rw [Rat.divInt_mul_divInt,← Int.natCast_mul,← Int.natCast_mul,k1,k2,Int.natAbs_of_nonneg h0,Rat.num_divInt_den]
noncomputable def sRqY {q:Rat} (hq:q*q=x) (q0:0≤q):Spec Tryz.prog:=⟨180,Tryz.call180,[fcS x],[],.tup [.a (fC q),.c (.b (.v (.bool true)))],[],rqY_ok h0 hx hq q0,by kernel_rfl⟩
noncomputable def sRqN (hq:¬ ∃ q:Rat,q*q=x):Spec Tryz.prog:=⟨180,Tryz.call180,[fcS x],[],.tup [.a (rL r40),.c (.b (.v (.bool false)))],[],rqN_ok h0 hx hq,by kernel_rfl⟩
end
theorem gq_sz {q x:Rat} {k:Nat} (h:q*q=x) (hx:Sz k x):Sz k q:=by
 have hs:=sq_parts q
 rw [h] at hs
 have sq:∀ a:Nat,a≤a*a:=fun a=>Nat.le_mul_self a
 refine ⟨sz_le.2 ?_,sz_le.2 ?_⟩
 · have h1:=sz_le.1 hx.1
   rw [hs.1] at h1
   refine Nat.lt_of_le_of_lt ?_ h1
   have h3:=sq q.num.natAbs
   first | (rw [Int.natAbs_mul]; exact h3) | (simpa [Int.natAbs_mul] using h3)
 · have h1:=sz_le.1 hx.2
   rw [hs.2] at h1
   refine Nat.lt_of_le_of_lt ?_ h1
   have h3:=sq q.den
   rw [Int.natAbs_mul,Int.natAbs_natCast]
   exact h3
theorem gq_num {q:Rat} (h:0≤q):0≤q.num:=Rat.num_nonneg.2 h
section
variable {z:GQ} (hz:GSz 80 z)
theorem gq_nre:(gmul z (gconj z)).re=gnorm z:=by
 simp only [gmul,gconj,gnorm]
 grind
include hz in
theorem gq_nsz:Sz 321 (gnorm z):=hz.norm
abbrev gqm (z:GQ) (q:Rat):Rat:=(q+z.re)*half12
theorem gq_half:(0:Rat)≤half12:=Rat.num_nonneg.1 (by show 0≤(Rat.divInt 1 2).num; decide +kernel)
theorem gq_mn {q:Rat} (h:q*q=gnorm z) (h0:0≤q):0≤gqm z q:=by
 refine Rat.mul_nonneg ?_ gq_half
 have h1:0≤z.im*z.im:=by
  rcases Rat.le_total (a:=0) (b:=z.im) with h2 | h2
  · exact Rat.mul_nonneg h2 h2
  · have:=Rat.mul_nonneg (a:=-z.im) (b:=-z.im) (by grind) (by grind)
    grind
 have h2:q*q=z.re*z.re+z.im*z.im:=h
 rcases Rat.le_total (a:=0) (b:=q+z.re) with h3 | h3
 · exact h3
 · have h4:0 ≤ -(q+z.re):=by grind
   have h5:0 ≤ -z.re+q:=by grind
   have h6:=Rat.mul_nonneg h4 h5
   have h7 : -(q+z.re)*(-z.re+q)=z.re*z.re-q*q:=by grind
   rw [h7,h2] at h6
   have h8:z.im*z.im=0:=by grind
   have h9:(q+z.re)*(q-z.re)=0:=by grind
   rcases Rat.mul_eq_zero.1 h9 with h | h
   · grind
   · have:q=z.re:=by grind
     grind
include hz in
theorem gq_qsz {q:Rat} (h:q*q=gnorm z):Sz 321 q:=gq_sz h (gq_nsz hz)
include hz in
theorem gq_msz {q:Rat} (h:q*q=gnorm z):Sz 410 (gqm z q):=((gq_qsz hz h).add hz.1).mul sz_half
noncomputable def gqE0:List (Ev Tryz.prog):=[(sParts z).e,(sConj z).e,(sMul (hz.mono (by decide)) (hz.conj.mono (by decide))).e,(sParts (gmul z (gconj z))).e]
include hz in
theorem gq_nre_sz:Sz KB (gmul z (gconj z)).re:=by rw [gq_nre]; exact (gq_nsz hz).mono (by decide)
noncomputable def gqE1 {q:Rat} (h:q*q=gnorm z) (h0:0≤q):List (Ev Tryz.prog):=gqE0 hz++[(sRootQ (x:=(gmul z (gconj z)).re) (r:=q) (by rw [gq_nre,h]) (gq_num h0) ((gq_qsz hz h).mono (by decide))).e,nNew 1 2 (by decide) (by decide) (by decide),mkR,mkR,fAdd ((gq_qsz hz h).mono (by decide)) (hz.1.mono (by decide)),fMul (((gq_qsz hz h).add hz.1).mono (by decide)) (sz_half.mono (by decide))]
noncomputable def gqE2 {q:Rat} (h:q*q=gnorm z) (h0:0≤q) {a:Rat} (k:a*a=gqm z q) (k0:0≤a) {t:Bool} (ht:decide (a=0)=!t):List (Ev Tryz.prog):=gqE1 hz h h0++[(sRootQ (x:=gqm z q) (r:=a) k.symm (gq_num k0) ((gq_sz k (gq_msz hz h)).mono (by decide))).e,nSign (x:=a) rfl,.eqv 52 (.bool (!(a.num.sign==0))) (.bool t) (sign_neG ht)]
theorem gq_no {x:Rat} (h:¬ ∃ q:Rat,q*q=x) (a b:Nat):decide (Rat.divInt a b*Rat.divInt a b=x)=false:=decide_eq_false fun e=>h ⟨_,e⟩
noncomputable def gqXN {a b:Nat} (hR:RootB (gmul z (gconj z)).re (gmul z (gconj z)).re.num.natAbs (gmul z (gconj z)).re.den a b) (hN:¬ ∃ q:Rat,q*q=(gmul z (gconj z)).re):Spec Tryz.prog :=
 Spec.auto Tryz.call168 [nV 0] (gM z) (.tup [nA 0,nI' 7]) [] (gqE0 hz++[(sRootB (gq_nre_sz hz) hR (gq_no hN a b)).e]) [(2,10)] 1200 Tryz.func168 hmA (by kernel_rfl) (fun β=>by kernel_rfl)
noncomputable def gqXM {q:Rat} (h:q*q=gnorm z) (h0:0≤q) {a b:Nat} (hR:RootB (gqm z q) (gqm z q).num.natAbs (gqm z q).den a b) (hN:¬ ∃ a:Rat,a*a=gqm z q):Spec Tryz.prog :=
 Spec.auto Tryz.call168 [nV 0] (gM z) (.tup [nA 0,nI' 7]) [] (gqE1 hz h h0++[(sRootB ((gq_msz hz h).mono (by decide)) hR (gq_no hN a b)).e]) [(2,10)] 1200 Tryz.func168 hmA (by kernel_rfl) (fun β=>by kernel_rfl)
noncomputable def gqXB {q:Rat} (h:q*q=gnorm z) (h0:0≤q) {c:Rat} (k:c*c=gqm z q) (k0:0≤c) (kz:c=0) {a b:Nat} (hR:RootB q q.num.natAbs q.den a b) (hN:¬ ∃ b:Rat,b*b=q):Spec Tryz.prog :=
 Spec.auto Tryz.call168 [nV 0] (gM z) (.tup [nA 0,nI' 7]) [] (gqE2 hz h h0 k k0 (t:=false) (decide_eq_true kz)++[(sRootB ((gq_qsz hz h).mono (by decide)) hR (gq_no hN a b)).e]) [(2,10)] 1200 Tryz.func168 hmA (by kernel_rfl) (fun β=>by kernel_rfl)
abbrev gqh (z:GQ) (a:Rat):Rat:=z.im*half12/a
include hz in
theorem gqh_sz {q:Rat} (h:q*q=gnorm z) {a:Rat} (k:a*a=gqm z q) (kz:a≠0):Sz 1000 (gqh z a):=((hz.2.mul sz_half).div (gq_sz k (gq_msz hz h)) kz).mono (by decide)
noncomputable def gqXA {q:Rat} (h:q*q=gnorm z) (h0:0≤q) {a:Rat} (k:a*a=gqm z q) (k0:0≤a) (kz:a≠0):Spec Tryz.prog :=
 Spec.auto Tryz.call168 [nV 0] (gM z) (.tup [nA 2,nI' 0]) (gT (gadd ⟨a,0⟩ (gmul ⟨gqh z a,0⟩ i01))) (gqE2 hz h h0 k k0 (t:=true) (decide_eq_false kz)++[mkR,fMul (hz.2.mono (by decide)) (sz_half.mono (by decide)),(sEReal a).e,rQuo ((hz.2.mul sz_half).mono (by decide)) ((gq_sz k (gq_msz hz h)).mono (by decide)) kz,(sEReal (gqh z a)).e,(sEInt 0 1 (by decide) (by decide)).e,
   (sMul (z:=⟨gqh z a,0⟩) ⟨(gqh_sz hz h k kz).mono (by decide),sz_zero.mono (by decide)⟩ (sz_i01.mono (by decide))).e,(sAdd (z:=⟨a,0⟩) ⟨(gq_sz k (gq_msz hz h)).mono (by decide),sz_zero.mono (by decide)⟩ ((GSz.mul (z:=⟨gqh z a,0⟩) (i:=1000) ⟨gqh_sz hz h k kz,sz_zero.mono (by decide)⟩ sz_i01).mono (by decide))).e]) [(2,10)] 1200 Tryz.func168 hmA (by kernel_rfl) (fun β=>by kernel_rfl)
noncomputable def gqXC {q:Rat} (h:q*q=gnorm z) (h0:0≤q) {a:Rat} (k:a*a=gqm z q) (k0:0≤a) (kz:a=0) {b:Rat} (l:b*b=q) (l0:0≤b):Spec Tryz.prog :=
 Spec.auto Tryz.call168 [nV 0] (gM z) (.tup [nA 2,nI' 0]) (gT (gmul ⟨b,0⟩ i01)) (gqE2 hz h h0 k k0 (t:=false) (decide_eq_true kz)++[(sRootQ (x:=q) (r:=b) l.symm (gq_num l0) ((gq_sz l (gq_qsz hz h)).mono (by decide))).e,(sEReal b).e,(sEInt 0 1 (by decide) (by decide)).e,
   (sMul (z:=⟨b,0⟩) ⟨(gq_sz l (gq_qsz hz h)).mono (by decide),sz_zero.mono (by decide)⟩ (sz_i01.mono (by decide))).e]) [(2,10)] 1200 Tryz.func168 hmA (by kernel_rfl) (fun β=>by kernel_rfl)
end
noncomputable def gqMN {z:GQ} (hz:GSz 80 z) {a b:Nat} (hR:RootB (gmul z (gconj z)).re (gmul z (gconj z)).re.num.natAbs (gmul z (gconj z)).re.den a b) (hN:¬ ∃ q:Rat,q*q=(gmul z (gconj z)).re):OSpec Tryz.prog :=
 OSpec.auto Tryz.call277 [nV 0,nV 2,.one (.c (.b (.p 4 0)))] [(ratM z.re).ob,(ratM z.im).ob,(ratM z.re).ob,(ratM z.im).ob,.box [fnL 168] FT1] (.tup [nA 0,nI' 7]) [] [(gqXN hz hR hN).e] [] 400 Tryz.func277 hmA (by kernel_rfl) (fun β=>by kernel_rfl)
noncomputable def gqTN {z:GQ} (hz:GSz 80 z) {a b:Nat} (hR:RootB (gmul z (gconj z)).re (gmul z (gconj z)).re.num.natAbs (gmul z (gconj z)).re.den a b) (hN:¬ ∃ q:Rat,q*q=(gmul z (gconj z)).re) (hf:FitG z):OSpec Tryz.prog :=
 OSpec.auto Tryz.call273 [gS z,gS z,.one (.c madeL)] [.box [fnL 168] FT1] (ga0 7) [] [(sOpened hf hf).e,dIdx 168 (numR z z),dNum 168 (numR z z),dIdx 168 (numR z z),dNum 168 (numR z z),(gqMN hz hR hN).e] [(4,11012013)] 800 Tryz.func273 hmA (by kernel_rfl) (fun β=>by kernel_rfl)
noncomputable def gqDN {z:GQ} (hz:GSz 80 z) {a b:Nat} (hR:RootB (gmul z (gconj z)).re (gmul z (gconj z)).re.num.natAbs (gmul z (gconj z)).re.den a b) (hN:¬ ∃ q:Rat,q*q=(gmul z (gconj z)).re) (hf:FitG z):Spec Tryz.prog :=
 Spec.auto Tryz.call162 [gS z,.one (.c (fnL 168))] [] (ga0 7) [] [(gqTN hz hR hN hf).e] [] 400 Tryz.func162 hmA (by kernel_rfl) (fun β=>by kernel_rfl)
noncomputable def sGqN {z:GQ} (hz:GSz 80 z) {a b:Nat} (hR:RootB (gmul z (gconj z)).re (gmul z (gconj z)).re.num.natAbs (gmul z (gconj z)).re.den a b) (hN:¬ ∃ q:Rat,q*q=(gmul z (gconj z)).re) (hf:FitG z):Spec Tryz.prog :=
 Spec.auto Tryz.call44 [gS z] [] (ga0 7) [] [(gqDN hz hR hN hf).e] [] 400 Tryz.func44 hmA (by kernel_rfl) (fun β=>by kernel_rfl)
noncomputable def gqMM {z:GQ} (hz:GSz 80 z) {q:Rat} (h:q*q=gnorm z) (h0:0≤q) {a b:Nat} (hR:RootB (gqm z q) (gqm z q).num.natAbs (gqm z q).den a b) (hN:¬ ∃ a:Rat,a*a=gqm z q):OSpec Tryz.prog :=
 OSpec.auto Tryz.call277 [nV 0,nV 2,.one (.c (.b (.p 4 0)))] [(ratM z.re).ob,(ratM z.im).ob,(ratM z.re).ob,(ratM z.im).ob,.box [fnL 168] FT1] (.tup [nA 0,nI' 7]) [] [(gqXM hz h h0 hR hN).e] [] 400 Tryz.func277 hmA (by kernel_rfl) (fun β=>by kernel_rfl)
noncomputable def gqTM {z:GQ} (hz:GSz 80 z) {q:Rat} (h:q*q=gnorm z) (h0:0≤q) {a b:Nat} (hR:RootB (gqm z q) (gqm z q).num.natAbs (gqm z q).den a b) (hN:¬ ∃ a:Rat,a*a=gqm z q) (hf:FitG z):OSpec Tryz.prog :=
 OSpec.auto Tryz.call273 [gS z,gS z,.one (.c madeL)] [.box [fnL 168] FT1] (ga0 7) [] [(sOpened hf hf).e,dIdx 168 (numR z z),dNum 168 (numR z z),dIdx 168 (numR z z),dNum 168 (numR z z),(gqMM hz h h0 hR hN).e] [(4,11012013)] 800 Tryz.func273 hmA (by kernel_rfl) (fun β=>by kernel_rfl)
noncomputable def gqDM {z:GQ} (hz:GSz 80 z) {q:Rat} (h:q*q=gnorm z) (h0:0≤q) {a b:Nat} (hR:RootB (gqm z q) (gqm z q).num.natAbs (gqm z q).den a b) (hN:¬ ∃ a:Rat,a*a=gqm z q) (hf:FitG z):Spec Tryz.prog :=
 Spec.auto Tryz.call162 [gS z,.one (.c (fnL 168))] [] (ga0 7) [] [(gqTM hz h h0 hR hN hf).e] [] 400 Tryz.func162 hmA (by kernel_rfl) (fun β=>by kernel_rfl)
noncomputable def sGqM {z:GQ} (hz:GSz 80 z) {q:Rat} (h:q*q=gnorm z) (h0:0≤q) {a b:Nat} (hR:RootB (gqm z q) (gqm z q).num.natAbs (gqm z q).den a b) (hN:¬ ∃ a:Rat,a*a=gqm z q) (hf:FitG z):Spec Tryz.prog :=
 Spec.auto Tryz.call44 [gS z] [] (ga0 7) [] [(gqDM hz h h0 hR hN hf).e] [] 400 Tryz.func44 hmA (by kernel_rfl) (fun β=>by kernel_rfl)
noncomputable def gqMB {z:GQ} (hz:GSz 80 z) {q:Rat} (h:q*q=gnorm z) (h0:0≤q) {c:Rat} (k:c*c=gqm z q) (k0:0≤c) (kz:c=0) {a b:Nat} (hR:RootB q q.num.natAbs q.den a b) (hN:¬ ∃ b:Rat,b*b=q):OSpec Tryz.prog :=
 OSpec.auto Tryz.call277 [nV 0,nV 2,.one (.c (.b (.p 4 0)))] [(ratM z.re).ob,(ratM z.im).ob,(ratM z.re).ob,(ratM z.im).ob,.box [fnL 168] FT1] (.tup [nA 0,nI' 7]) [] [(gqXB hz h h0 k k0 kz hR hN).e] [] 400 Tryz.func277 hmA (by kernel_rfl) (fun β=>by kernel_rfl)
noncomputable def gqTB {z:GQ} (hz:GSz 80 z) {q:Rat} (h:q*q=gnorm z) (h0:0≤q) {c:Rat} (k:c*c=gqm z q) (k0:0≤c) (kz:c=0) {a b:Nat} (hR:RootB q q.num.natAbs q.den a b) (hN:¬ ∃ b:Rat,b*b=q) (hf:FitG z):OSpec Tryz.prog :=
 OSpec.auto Tryz.call273 [gS z,gS z,.one (.c madeL)] [.box [fnL 168] FT1] (ga0 7) [] [(sOpened hf hf).e,dIdx 168 (numR z z),dNum 168 (numR z z),dIdx 168 (numR z z),dNum 168 (numR z z),(gqMB hz h h0 k k0 kz hR hN).e] [(4,11012013)] 800 Tryz.func273 hmA (by kernel_rfl) (fun β=>by kernel_rfl)
noncomputable def gqDB {z:GQ} (hz:GSz 80 z) {q:Rat} (h:q*q=gnorm z) (h0:0≤q) {c:Rat} (k:c*c=gqm z q) (k0:0≤c) (kz:c=0) {a b:Nat} (hR:RootB q q.num.natAbs q.den a b) (hN:¬ ∃ b:Rat,b*b=q) (hf:FitG z):Spec Tryz.prog :=
 Spec.auto Tryz.call162 [gS z,.one (.c (fnL 168))] [] (ga0 7) [] [(gqTB hz h h0 k k0 kz hR hN hf).e] [] 400 Tryz.func162 hmA (by kernel_rfl) (fun β=>by kernel_rfl)
noncomputable def sGqB {z:GQ} (hz:GSz 80 z) {q:Rat} (h:q*q=gnorm z) (h0:0≤q) {c:Rat} (k:c*c=gqm z q) (k0:0≤c) (kz:c=0) {a b:Nat} (hR:RootB q q.num.natAbs q.den a b) (hN:¬ ∃ b:Rat,b*b=q) (hf:FitG z):Spec Tryz.prog :=
 Spec.auto Tryz.call44 [gS z] [] (ga0 7) [] [(gqDB hz h h0 k k0 kz hR hN hf).e] [] 400 Tryz.func44 hmA (by kernel_rfl) (fun β=>by kernel_rfl)
noncomputable def gqMA {z:GQ} (hz:GSz 80 z) {q:Rat} (h:q*q=gnorm z) (h0:0≤q) {a:Rat} (k:a*a=gqm z q) (k0:0≤a) (kz:a≠0):OSpec Tryz.prog :=
 OSpec.auto Tryz.call277 [nV 0,nV 2,.one (.c (.b (.p 4 0)))] [(ratM z.re).ob,(ratM z.im).ob,(ratM z.re).ob,(ratM z.im).ob,.box [fnL 168] FT1] (.tup [nA 5,nI' 0]) [(gadd ⟨a,0⟩ (gmul ⟨gqh z a,0⟩ i01)).re,(gadd ⟨a,0⟩ (gmul ⟨gqh z a,0⟩ i01)).im] [(gqXA hz h h0 k k0 kz).e] [] 400 Tryz.func277 hmA (by kernel_rfl) (fun β=>by kernel_rfl)
noncomputable def gqTA {z:GQ} (hz:GSz 80 z) {q:Rat} (h:q*q=gnorm z) (h0:0≤q) {a:Rat} (k:a*a=gqm z q) (k0:0≤a) (kz:a≠0) (hf:FitG z) (hT:GSz KB (gadd ⟨a,0⟩ (gmul ⟨gqh z a,0⟩ i01))):OSpec Tryz.prog :=
 OSpec.auto Tryz.call273 [gS z,gS z,.one (.c madeL)] [.box [fnL 168] FT1] (gA2 (gadd ⟨a,0⟩ (gmul ⟨gqh z a,0⟩ i01))) [] [(sOpened hf hf).e,dIdx 168 (numR z z),dNum 168 (numR z z),dIdx 168 (numR z z),dNum 168 (numR z z),(gqMA hz h h0 k k0 kz).e,(sTold (z:=gadd ⟨a,0⟩ (gmul ⟨gqh z a,0⟩ i01)) hT).e] [(4,13012013)] 800 Tryz.func273 hmA (by kernel_rfl) (fun β=>by kernel_rfl)
noncomputable def gqDA {z:GQ} (hz:GSz 80 z) {q:Rat} (h:q*q=gnorm z) (h0:0≤q) {a:Rat} (k:a*a=gqm z q) (k0:0≤a) (kz:a≠0) (hf:FitG z) (hT:GSz KB (gadd ⟨a,0⟩ (gmul ⟨gqh z a,0⟩ i01))):Spec Tryz.prog :=
 Spec.auto Tryz.call162 [gS z,.one (.c (fnL 168))] [] (gA2 (gadd ⟨a,0⟩ (gmul ⟨gqh z a,0⟩ i01))) [] [(gqTA hz h h0 k k0 kz hf hT).e] [] 400 Tryz.func162 hmA (by kernel_rfl) (fun β=>by kernel_rfl)
noncomputable def sGqA {z:GQ} (hz:GSz 80 z) {q:Rat} (h:q*q=gnorm z) (h0:0≤q) {a:Rat} (k:a*a=gqm z q) (k0:0≤a) (kz:a≠0) (hf:FitG z) (hT:GSz KB (gadd ⟨a,0⟩ (gmul ⟨gqh z a,0⟩ i01))):Spec Tryz.prog :=
 Spec.auto Tryz.call44 [gS z] [] (gA2 (gadd ⟨a,0⟩ (gmul ⟨gqh z a,0⟩ i01))) [] [(gqDA hz h h0 k k0 kz hf hT).e] [] 400 Tryz.func44 hmA (by kernel_rfl) (fun β=>by kernel_rfl)
noncomputable def gqMC {z:GQ} (hz:GSz 80 z) {q:Rat} (h:q*q=gnorm z) (h0:0≤q) {a:Rat} (k:a*a=gqm z q) (k0:0≤a) (kz:a=0) {b:Rat} (l:b*b=q) (l0:0≤b):OSpec Tryz.prog :=
 OSpec.auto Tryz.call277 [nV 0,nV 2,.one (.c (.b (.p 4 0)))] [(ratM z.re).ob,(ratM z.im).ob,(ratM z.re).ob,(ratM z.im).ob,.box [fnL 168] FT1] (.tup [nA 5,nI' 0]) [(gmul ⟨b,0⟩ i01).re,(gmul ⟨b,0⟩ i01).im] [(gqXC hz h h0 k k0 kz l l0).e] [] 400 Tryz.func277 hmA (by kernel_rfl) (fun β=>by kernel_rfl)
noncomputable def gqTC {z:GQ} (hz:GSz 80 z) {q:Rat} (h:q*q=gnorm z) (h0:0≤q) {a:Rat} (k:a*a=gqm z q) (k0:0≤a) (kz:a=0) {b:Rat} (l:b*b=q) (l0:0≤b) (hf:FitG z) (hT:GSz KB (gmul ⟨b,0⟩ i01)):OSpec Tryz.prog :=
 OSpec.auto Tryz.call273 [gS z,gS z,.one (.c madeL)] [.box [fnL 168] FT1] (gA2 (gmul ⟨b,0⟩ i01)) [] [(sOpened hf hf).e,dIdx 168 (numR z z),dNum 168 (numR z z),dIdx 168 (numR z z),dNum 168 (numR z z),(gqMC hz h h0 k k0 kz l l0).e,(sTold (z:=gmul ⟨b,0⟩ i01) hT).e] [(4,13012013)] 800 Tryz.func273 hmA (by kernel_rfl) (fun β=>by kernel_rfl)
noncomputable def gqDC {z:GQ} (hz:GSz 80 z) {q:Rat} (h:q*q=gnorm z) (h0:0≤q) {a:Rat} (k:a*a=gqm z q) (k0:0≤a) (kz:a=0) {b:Rat} (l:b*b=q) (l0:0≤b) (hf:FitG z) (hT:GSz KB (gmul ⟨b,0⟩ i01)):Spec Tryz.prog :=
 Spec.auto Tryz.call162 [gS z,.one (.c (fnL 168))] [] (gA2 (gmul ⟨b,0⟩ i01)) [] [(gqTC hz h h0 k k0 kz l l0 hf hT).e] [] 400 Tryz.func162 hmA (by kernel_rfl) (fun β=>by kernel_rfl)
noncomputable def sGqC {z:GQ} (hz:GSz 80 z) {q:Rat} (h:q*q=gnorm z) (h0:0≤q) {a:Rat} (k:a*a=gqm z q) (k0:0≤a) (kz:a=0) {b:Rat} (l:b*b=q) (l0:0≤b) (hf:FitG z) (hT:GSz KB (gmul ⟨b,0⟩ i01)):Spec Tryz.prog :=
 Spec.auto Tryz.call44 [gS z] [] (gA2 (gmul ⟨b,0⟩ i01)) [] [(gqDC hz h h0 k k0 kz l l0 hf hT).e] [] 400 Tryz.func44 hmA (by kernel_rfl) (fun β=>by kernel_rfl)
section
variable {z:GQ} (hz:GSz 80 z)
abbrev grR:SV:=.tup [.a (lsX g0C),.c (.b (.v (.bool false)))]
noncomputable def sGrN (hN:¬ ∃ q:Rat,q*q=gnorm z):Spec Tryz.prog :=
 Spec.auto Tryz.call47 [gS z] [] grR [] [(sR4Norm (hz.mono (by decide))).e,(sRqN (gnorm_nn z) ((gq_nsz hz).mono (by decide)) hN).e] [(6,6011012),(10,8)] 800 Tryz.func47 hmA (by kernel_rfl) (fun β=>by kernel_rfl)
noncomputable def grE1 {q:Rat} (h:q*q=gnorm z) (h0:0≤q):List (Ev Tryz.prog) :=
 [(sR4Norm (hz.mono (by decide))).e,(sRqY (gnorm_nn z) ((gq_nsz hz).mono (by decide)) h h0).e,(sR3Small 1 2 (by decide) (by decide) (by decide) (Nat.le_trans (sz_small (by decide)) (by decide)) (Nat.le_trans (sz_small (by decide)) (by decide))).e,
  (sR3Plus ((gq_qsz hz h).mono (by decide)) (hz.1.mono (by decide))).e,(sR3Times (((gq_qsz hz h).add hz.1).mono (by decide)) (sz_half.mono (by decide))).e]
noncomputable def sGrM {q:Rat} (h:q*q=gnorm z) (h0:0≤q) (hN:¬ ∃ a:Rat,a*a=gqm z q):Spec Tryz.prog :=
 Spec.auto Tryz.call47 [gS z] [] grR [] (grE1 hz h h0++[(sRqN (gq_num (gq_mn h h0)) ((gq_msz hz h).mono (by decide)) hN).e]) [(6,6011012),(10,8)] 800 Tryz.func47 hmA (by kernel_rfl) (fun β=>by kernel_rfl)
noncomputable def grE2 {q:Rat} (h:q*q=gnorm z) (h0:0≤q) {a:Rat} (k:a*a=gqm z q) (k0:0≤a) {t:Bool} (ht:decide (a=0)=!t):List (Ev Tryz.prog) :=
 grE1 hz h h0++[(sRqY (gq_num (gq_mn h h0)) ((gq_msz hz h).mono (by decide)) k k0).e,(sR3Sign (x:=a) rfl).e,.eqv 36 (.bool (!(a.num.sign==0))) (.bool t) (sign_neG ht)]
noncomputable def sGrB {q:Rat} (h:q*q=gnorm z) (h0:0≤q) {a:Rat} (k:a*a=gqm z q) (k0:0≤a) (kz:a=0) (hN:¬ ∃ b:Rat,b*b=q):Spec Tryz.prog :=
 Spec.auto Tryz.call47 [gS z] [] grR [] (grE2 hz h h0 k k0 (t:=false) (decide_eq_true kz)++[(sRqN (gq_num h0) ((gq_qsz hz h).mono (by decide)) hN).e]) [(6,6011012),(10,8)] 800 Tryz.func47 hmA (by kernel_rfl) (fun β=>by kernel_rfl)
noncomputable def sGrA {q:Rat} (h:q*q=gnorm z) (h0:0≤q) {a:Rat} (k:a*a=gqm z q) (k0:0≤a) (kz:a≠0):Spec Tryz.prog :=
 Spec.auto Tryz.call47 [gS z] [] (.tup [.a (gC ⟨a,gqh z a⟩),.c (.b (.v (.bool true)))]) [] (grE2 hz h h0 k k0 (t:=true) (decide_eq_false kz)++[(sR3Times (hz.2.mono (by decide)) (sz_half.mono (by decide))).e,(sR3Over ((hz.2.mul sz_half).mono (by decide)) ((gq_sz k (gq_msz hz h)).mono (by decide)) kz).e]) [(6,6011012),(10,8)] 800 Tryz.func47 hmA (by kernel_rfl) (fun β=>by kernel_rfl)
noncomputable def sGrC {q:Rat} (h:q*q=gnorm z) (h0:0≤q) {a:Rat} (k:a*a=gqm z q) (k0:0≤a) (kz:a=0) {b:Rat} (l:b*b=q) (l0:0≤b):Spec Tryz.prog :=
 Spec.auto Tryz.call47 [gS z] [] (.tup [.a (gC ⟨a,b⟩),.c (.b (.v (.bool true)))]) [] (grE2 hz h h0 k k0 (t:=false) (decide_eq_true kz)++[(sRqY (gq_num h0) ((gq_qsz hz h).mono (by decide)) l l0).e]) [(6,6011012),(10,8)] 800 Tryz.func47 hmA (by kernel_rfl) (fun β=>by kernel_rfl)
end
theorem gq_wA {z:GQ} {a:Rat}:gadd ⟨a,0⟩ (gmul ⟨gqh z a,0⟩ i01)=⟨a,gqh z a⟩:=by
 rw [i01_parts]
 refine GQ.ext2 ?_ ?_<;>(simp only [gadd,gmul]; grind)
theorem gq_wC {a b:Rat} (h:a=0):gmul ⟨b,0⟩ i01=⟨a,b⟩:=by
 rw [i01_parts,h]
 refine GQ.ext2 ?_ ?_<;>(simp only [gmul]; grind)
structure GqY (z w:GQ) where
 p:Spec Tryz.prog
 r:Spec Tryz.prog
 pf:p.f=44
 pa:p.args=[gS z]
 po:p.obs=[]
 pr:p.res=gA2 w
 pn:p.news=[]
 rf:r.f=47
 ra:r.args=[gS z]
 ro:r.obs=[]
 rr:r.res=.tup [.a (gC w),.c (.b (.v (.bool true)))]
 rn:r.news=[]
structure GqN (z:GQ) where
 p:Spec Tryz.prog
 r:Spec Tryz.prog
 pf:p.f=44
 pa:p.args=[gS z]
 po:p.obs=[]
 pr:p.res=ga0 7
 pn:p.news=[]
 rf:r.f=47
 ra:r.args=[gS z]
 ro:r.obs=[]
 rr:r.res=grR
 rn:r.news=[]
theorem abs_rt {x:Rat} (h:∃ q:Rat,q*q=x):∃ q:Rat,q*q=x∧0≤q:=by
 obtain ⟨q,hq⟩:=h
 rcases Rat.le_total (a:=0) (b:=q) with h0 | h0
 · exact ⟨q,hq,h0⟩
 · exact ⟨-q,by rw [← hq]; grind,by grind⟩
theorem gq_all {z:GQ} (hz:GSz 80 z) (hf:FitG z):Nonempty (GqN z)∨∃ w,Nonempty (GqY z w):=by
 by_cases hN:∃ q:Rat,q*q=gnorm z
 · obtain ⟨q,h,h0⟩:=abs_rt hN
   by_cases hM:∃ a:Rat,a*a=gqm z q
   · obtain ⟨a,k,k0⟩:=abs_rt hM
     by_cases kz:a=0
     · by_cases hB:∃ b:Rat,b*b=q
       · obtain ⟨b,l,l0⟩:=abs_rt hB
         have hT:GSz KB (gmul ⟨b,0⟩ i01):=(GSz.mul (z:=⟨b,0⟩) (i:=400) ⟨(gq_sz l (gq_qsz hz h)).mono (by decide),sz_zero.mono (by decide)⟩ sz_i01).mono (by decide)
         exact .inr ⟨⟨a,b⟩,⟨sGqC hz h h0 k k0 kz l l0 hf hT,sGrC hz h h0 k k0 kz l l0,rfl,rfl,rfl,congrArg gA2 (gq_wC kz),rfl,rfl,rfl,rfl,rfl,rfl⟩⟩
       · obtain ⟨x,y,hR⟩:=rootB_of (gq_num h0) ((gq_qsz hz h).mono (by decide))
         exact .inl ⟨⟨sGqB hz h h0 k k0 kz hR hB hf,sGrB hz h h0 k k0 kz hB,rfl,rfl,rfl,rfl,rfl,rfl,rfl,rfl,rfl,rfl⟩⟩
     · have hT:GSz KB (gadd ⟨a,0⟩ (gmul ⟨gqh z a,0⟩ i01)):=(GSz.add (z:=⟨a,0⟩) (i:=410) ⟨(gq_sz k (gq_msz hz h)).mono (by decide),sz_zero.mono (by decide)⟩ (GSz.mul (z:=⟨gqh z a,0⟩) (i:=1000) ⟨gqh_sz hz h k kz,sz_zero.mono (by decide)⟩ sz_i01)).mono (by decide)
       exact .inr ⟨⟨a,gqh z a⟩,⟨sGqA hz h h0 k k0 kz hf hT,sGrA hz h h0 k k0 kz,rfl,rfl,rfl,congrArg gA2 gq_wA,rfl,rfl,rfl,rfl,rfl,rfl⟩⟩
   · obtain ⟨x,y,hR⟩:=rootB_of (gq_num (gq_mn h h0)) ((gq_msz hz h).mono (by decide))
     exact .inl ⟨⟨sGqM hz h h0 hR hM hf,sGrM hz h h0 hM,rfl,rfl,rfl,rfl,rfl,rfl,rfl,rfl,rfl,rfl⟩⟩
 · have e:(gmul z (gconj z)).re=gnorm z:=gq_nre
   obtain ⟨x,y,hR⟩:=rootB_of (x:=(gmul z (gconj z)).re) (by rw [e]; exact gnorm_nn z) (by rw [e]; exact (gq_nsz hz).mono (by decide))
   exact .inl ⟨⟨sGqN hz hR (by rw [e]; exact hN) hf,sGrN hz hN,rfl,rfl,rfl,rfl,rfl,rfl,rfl,rfl,rfl,rfl⟩⟩
def spK (S:Spec Tryz.prog) {f:FuncId} (en:Enters Tryz.prog f) {args:List SV} {res:SV} (hf:S.f=f) (ha:S.args=args) (ho:S.obs=[]) (hr:S.res=res) (hn:S.news=[]) (hc:(args.all (SV.of fun k=>Nat.blt k 0)&&res.of fun k=>Nat.blt k (0+0))=true):Spec Tryz.prog :=
 ⟨f,en,args,[],res,[],fun β w hh=>by
  have h:=S.ok β w (fun k t ht=>by rw [ho] at ht; cases ht)
  rw [hf,ha,hr,ho,hn] at h
  exact h,hc⟩
noncomputable def GqY.P {z w:GQ} (Y:GqY z w):Spec Tryz.prog:=spK Y.p Tryz.call44 Y.pf Y.pa Y.po Y.pr Y.pn (by kernel_rfl)
noncomputable def GqY.R {z w:GQ} (Y:GqY z w):Spec Tryz.prog:=spK Y.r Tryz.call47 Y.rf Y.ra Y.ro Y.rr Y.rn (by kernel_rfl)
noncomputable def GqN.P {z:GQ} (Y:GqN z):Spec Tryz.prog:=spK Y.p Tryz.call44 Y.pf Y.pa Y.po Y.pr Y.pn (by kernel_rfl)
noncomputable def GqN.R {z:GQ} (Y:GqN z):Spec Tryz.prog:=spK Y.r Tryz.call47 Y.rf Y.ra Y.ro Y.rr Y.rn (by kernel_rfl)
noncomputable def sGSqrtNo (a:Gn) (h:a.B=false):Spec Tryz.prog :=
 Spec.auto Tryz.call44 [gnS a] [] (ga0 2) [] [(sMadeNo 168 a h).e] [] 400 Tryz.func44 hmA (by kernel_rfl) (fun β=>by kernel_rfl)
def sIs4K2 (z:GQ):Spec Tryz.prog :=
 Spec.auto Tryz.call46 [.one (.a g0C),.one (nI' 2),tB' true,.one (nI' 2),gS z] [] (tB' true) [] [eqG0,(sNum4 2).e] [] 400 Tryz.func46 hmA (by kernel_rfl) (fun β=>by kernel_rfl)
def sIs4K7 (z:GQ):Spec Tryz.prog :=
 Spec.auto Tryz.call46 [.one (.a g0C),.one (nI' 7),tB' true,.one (nI' 7),gS z] [] (tB' true) [] [eqG0,(sNum4 7).e] [] 400 Tryz.func46 hmA (by kernel_rfl) (fun β=>by kernel_rfl)
inductive PC where
 | A
 | B
 | C
 | D
 | E
 | F
 | G
def PC.at (n:Int):PC→Prop
 | .A=>n < -64
 | .B=>64<n
 | .C=>-64≤n∧n < -8
 | .D=>8<n∧n≤64
 | .E=>-8≤n∧n < -2
 | .F=>2<n∧n≤8
 | .G=>-2≤n∧n≤2
def PC.most:PC→Nat
 | .C=>3
 | .D=>3
 | .E=>12
 | .F=>12
 | _=>80
theorem PC.all (n:Int):∃ t:PC,t.at n:=by
 by_cases h1:n < -64
 · exact ⟨.A,h1⟩
 by_cases h2:64<n
 · exact ⟨.B,h2⟩
 by_cases h3:n < -8
 · exact ⟨.C,by show -64≤n∧n < -8; omega⟩
 by_cases h4:8<n
 · exact ⟨.D,by show 8<n∧n≤64; omega⟩
 by_cases h5:n < -2
 · exact ⟨.E,by show -8≤n∧n < -2; omega⟩
 by_cases h6:2<n
 · exact ⟨.F,by show 2<n∧n≤8; omega⟩
 · exact ⟨.G,by show -2≤n∧n≤2; omega⟩
def evLt (d:Nat) (a b:Int) (t:Bool) (h:decide (a<b)=t):Ev Tryz.prog:=.eqv d (.bool (decide (a<b))) (.bool t) (by rw [h])
theorem ltT {a b:Int} (h:a<b):decide (a<b)=true:=decide_eq_true h
theorem ltF {a b:Int} (h:¬ a<b):decide (a<b)=false:=decide_eq_false h
def PC.evs (n:Int):(t:PC)→t.at n→List (Ev Tryz.prog)
 | .A,h=>[evLt 14 n (-64) true (ltT h)]
 | .B,h=>[evLt 14 n (-64) false (ltF (by have h:64<n:=h; omega)),evLt 17 64 n true (ltT h)]
 | .C,h=>[evLt 14 n (-64) false (ltF (by have h : -64≤n∧n < -8:=h; omega)),evLt 17 64 n false (ltF (by have h : -64≤n∧n < -8:=h; omega)),evLt 21 n (-8) true (ltT h.2)]
 | .D,h=>[evLt 14 n (-64) false (ltF (by have h:8<n∧n≤64:=h; omega)),evLt 17 64 n false (ltF (by have h:8<n∧n≤64:=h; omega)),evLt 21 n (-8) false (ltF (by have h:8<n∧n≤64:=h; omega)),evLt 24 8 n true (ltT h.1)]
 | .E,h=>[evLt 14 n (-64) false (ltF (by have h : -8≤n∧n < -2:=h; omega)),evLt 17 64 n false (ltF (by have h : -8≤n∧n < -2:=h; omega)),evLt 21 n (-8) false (ltF (by have h : -8≤n∧n < -2:=h; omega)),evLt 24 8 n false (ltF (by have h : -8≤n∧n < -2:=h; omega)),evLt 28 n (-2) true (ltT h.2)]
 | .F,h=>[evLt 14 n (-64) false (ltF (by have h:2<n∧n≤8:=h; omega)),evLt 17 64 n false (ltF (by have h:2<n∧n≤8:=h; omega)),evLt 21 n (-8) false (ltF (by have h:2<n∧n≤8:=h; omega)),evLt 24 8 n false (ltF (by have h:2<n∧n≤8:=h; omega)),evLt 28 n (-2) false (ltF (by have h:2<n∧n≤8:=h; omega)),evLt 31 2 n true (ltT h.1)]
 | .G,h=>[evLt 14 n (-64) false (ltF (by have h : -2≤n∧n≤2:=h; omega)),evLt 17 64 n false (ltF (by have h : -2≤n∧n≤2:=h; omega)),evLt 21 n (-8) false (ltF (by have h : -2≤n∧n≤2:=h; omega)),evLt 24 8 n false (ltF (by have h : -2≤n∧n≤2:=h; omega)),evLt 28 n (-2) false (ltF (by have h : -2≤n∧n≤2:=h; omega)),evLt 31 2 n false (ltF (by have h : -2≤n∧n≤2:=h; omega))]
noncomputable def PC.pre {n:Int} (t:PC) (h:t.at n) (x y:R4) {b:Bool} (hb:smB t.most x y=b):List (Ev Tryz.prog):=t.evs n h++[(sR4Small t.most x y hb).e]
abbrev gplA (a:Gn) (n:Int):List SV:=[gnS a,.one (nI' n)]
abbrev gplN:List (Nat × Nat):=[(20,10)]
abbrev PlOk (args:List SV):Prop:=∀ (β:Env) (w:World),Calls Tryz.prog 7 (args.map (SV.den β)).toArray w fun e w'=>∃ xs:List Pl,freshS β w 0 xs∧e=.returned ((tB' true).den (extE β 0 xs))∧newHold w' [] xs∧Below w.heap.size w w'
theorem gpl1 (a:Gn) {n:Int} (t:PC) (h:t.at n) (hb:smB t.most a.x a.y=false):PlOk (gplA a n):=fun β w=>by
 cases t<;>exact spec_auto (obs:=[]) (evs:=PC.pre _ h a.x a.y hb++[sKnown4.e]) (Ns:=gplN) (m:=800) Tryz.func7 hmA (fun β=>by kernel_rfl) (by kernel_rfl) β w (fun k t ht=>by cases ht)
theorem gpl2 (a:Gn) {n:Int} (t:PC) (h:t.at n) (hb:smB t.most a.x a.y=true) (hn:a.B=false):PlOk (gplA a n):=fun β w=>by
 cases t<;>exact spec_auto (obs:=[]) (evs:=PC.pre _ h a.x a.y hb++[(sGpNo a hn n).e,(sGSqrtNo a hn).e,(sR4MayG a hn).e,(sIs4No a.x a.y).e,(sIs4No a.x a.y).e,sKnown4.e]) (Ns:=gplN) (m:=800) Tryz.func7 hmA (fun β=>by kernel_rfl) (by kernel_rfl) β w (fun k t ht=>by cases ht)
inductive RtW (z:GQ) where
 | no (Y:GqN z)
 | yes (w:GQ) (Y:GqY z w)
noncomputable def RtW.P {z:GQ}:RtW z→Ev Tryz.prog
 | .no Y=>Y.P.e
 | .yes _ Y=>Y.P.e
noncomputable def RtW.E {z:GQ}:RtW z→List (Ev Tryz.prog)
 | .no Y=>[Y.R.e,(sIs4K7 z).e]
 | .yes w Y=>[Y.R.e,(sIs4 w).e]
section
variable {z:GQ} (hf:FitG z) {n:Int} (W:RtW z)
abbrev gplS (z:GQ) (n:Int):List SV:=[gS z,.one (nI' n)]
include hf W in
theorem gpl3a (h:n < -64) (hb:smB 80 (fR z.re) (fR z.im)=true):PlOk (gplS z n):=fun β w=>by
 cases W with
 | no Y=>exact spec_auto (obs:=[]) (evs:=PC.pre .A h (fR z.re) (fR z.im) hb++[(sGpa z h hf).e,RtW.P (.no Y),(sR4MayG (.ok z hf) rfl).e]++RtW.E (.no Y)++[evLt 92 n (-64) true (ltT h),(sIs4K2 z).e,sKnown4.e]) (Ns:=gplN) (m:=800) Tryz.func7 hmA (fun β=>by kernel_rfl) (by kernel_rfl) β w (fun k t ht=>by cases ht)
 | yes w2 Y=>exact spec_auto (obs:=[]) (evs:=PC.pre .A h (fR z.re) (fR z.im) hb++[(sGpa z h hf).e,RtW.P (.yes w2 Y),(sR4MayG (.ok z hf) rfl).e]++RtW.E (.yes w2 Y)++[evLt 92 n (-64) true (ltT h),(sIs4K2 z).e,sKnown4.e]) (Ns:=gplN) (m:=800) Tryz.func7 hmA (fun β=>by kernel_rfl) (by kernel_rfl) β w (fun k t ht=>by cases ht)
include hf W in
theorem gpl3b (h:64<n) (hb:smB 80 (fR z.re) (fR z.im)=true):PlOk (gplS z n):=fun β w=>by
 cases W with
 | no Y=>exact spec_auto (obs:=[]) (evs:=PC.pre .B h (fR z.re) (fR z.im) hb++[(sGpb z h hf).e,RtW.P (.no Y),(sR4MayG (.ok z hf) rfl).e]++RtW.E (.no Y)++[evLt 92 n (-64) false (ltF (by omega)),evLt 95 64 n true (ltT h),(sIs4K2 z).e,sKnown4.e]) (Ns:=gplN) (m:=800) Tryz.func7 hmA (fun β=>by kernel_rfl) (by kernel_rfl) β w (fun k t ht=>by cases ht)
 | yes w2 Y=>exact spec_auto (obs:=[]) (evs:=PC.pre .B h (fR z.re) (fR z.im) hb++[(sGpb z h hf).e,RtW.P (.yes w2 Y),(sR4MayG (.ok z hf) rfl).e]++RtW.E (.yes w2 Y)++[evLt 92 n (-64) false (ltF (by omega)),evLt 95 64 n true (ltT h),(sIs4K2 z).e,sKnown4.e]) (Ns:=gplN) (m:=800) Tryz.func7 hmA (fun β=>by kernel_rfl) (by kernel_rfl) β w (fun k t ht=>by cases ht)
noncomputable def gplM (h:n.natAbs≤64):List (Ev Tryz.prog):=[evLt 92 n (-64) false (ltF (by omega)),evLt 95 64 n false (ltF (by omega))]
include hf W in
theorem gpl4 (t:PC) (h:t.at n) (hb:smB t.most (fR z.re) (fR z.im)=true) (h64:n.natAbs≤64) (h0:n<0) (hz:gzero z=true):PlOk (gplS z n):=fun β w=>by
 cases t
 case A=>exact absurd h (by show ¬ n < -64; omega)
 case B=>exact absurd h (by show ¬ 64<n; omega)
 case D=>exact absurd h (by show ¬ (8<n∧n≤64); omega)
 case F=>exact absurd h (by show ¬ (2<n∧n≤8); omega)
 all_goals
  cases W with
  | no Y=>exact spec_auto (obs:=[]) (evs:=PC.pre _ h (fR z.re) (fR z.im) hb++[(sGpc h64 h0 hz hf).e,RtW.P (.no Y),(sR4MayG (.ok z hf) rfl).e]++RtW.E (.no Y)++gplM h64++[evLt 106 n 0 true (ltT h0),(sR4Zero z hz).e,(sIs4Z z).e,sKnown4.e]) (Ns:=gplN) (m:=800) Tryz.func7 hmA (fun β=>by kernel_rfl) (by kernel_rfl) β w (fun k t ht=>by cases ht)
  | yes w2 Y=>exact spec_auto (obs:=[]) (evs:=PC.pre _ h (fR z.re) (fR z.im) hb++[(sGpc h64 h0 hz hf).e,RtW.P (.yes w2 Y),(sR4MayG (.ok z hf) rfl).e]++RtW.E (.yes w2 Y)++gplM h64++[evLt 106 n 0 true (ltT h0),(sR4Zero z hz).e,(sIs4Z z).e,sKnown4.e]) (Ns:=gplN) (m:=800) Tryz.func7 hmA (fun β=>by kernel_rfl) (by kernel_rfl) β w (fun k t ht=>by cases ht)
noncomputable def gplV {b:Bool} (hb:decide (n<0)=b) (hz:b=true→gzero z=false):List (Ev Tryz.prog):=evLt 106 n 0 b hb::(match b,hz with
 | true,hz=>[(sR4Zero z (hz rfl)).e]
 | false,_=>[])
include hf W in
theorem gpl5 (t:PC) (h:t.at n) (hb:smB t.most (fR z.re) (fR z.im)=true) (h64:n.natAbs≤64) {b:Bool} (hn:decide (n<0)=b) (hz:b=true→gzero z=false) {k:Nat} (g1:GSz k z) (g2:k≤80) (g3:0≤n∨gzero z=false) {r:Nat} (g4:n.natAbs<2^r) (g5:(4*k+5)*5^r≤KM) (g7:GSz KB (gpw (gpB z n) n.natAbs))
  (hs:∀ j,j≤n.natAbs→GSz gpK4 (gpw z j)) (hzk:GSz gpK4 z):PlOk (gplS z n):=fun β w=>by
 cases t
 case A=>exact absurd h (by show ¬ n < -64; omega)
 case B=>exact absurd h (by show ¬ 64<n; omega)
 all_goals
  cases W with
  | no Y=>cases b<;>exact spec_auto (obs:=[]) (evs:=PC.pre _ h (fR z.re) (fR z.im) hb++[(sGpY g1 h64 g2 g3 g4 g5 rfl g7 hf).e,RtW.P (.no Y),(sR4MayG (.ok z hf) rfl).e]++RtW.E (.no Y)++gplM h64++gplV hn hz++[(sR4Pow h64 hzk hs g3).e,(sIs4 (gpw (gpB z n) n.natAbs)).e,sKnown4.e]) (Ns:=gplN) (m:=800) Tryz.func7 hmA (fun β=>by kernel_rfl) (by kernel_rfl) β w (fun k t ht=>by cases ht)
  | yes w2 Y=>cases b<;>exact spec_auto (obs:=[]) (evs:=PC.pre _ h (fR z.re) (fR z.im) hb++[(sGpY g1 h64 g2 g3 g4 g5 rfl g7 hf).e,RtW.P (.yes w2 Y),(sR4MayG (.ok z hf) rfl).e]++RtW.E (.yes w2 Y)++gplM h64++gplV hn hz++[(sR4Pow h64 hzk hs g3).e,(sIs4 (gpw (gpB z n) n.natAbs)).e,sKnown4.e]) (Ns:=gplN) (m:=800) Tryz.func7 hmA (fun β=>by kernel_rfl) (by kernel_rfl) β w (fun k t ht=>by cases ht)
end
def PC.r:PC→Nat
 | .C=>7
 | .D=>7
 | .E=>4
 | .F=>4
 | _=>2
theorem gpl_no {k:Nat} {s:ByteArray} (h:big k s=false):s.size≤k:=by
 have:=of_decide_eq_false h
 omega
theorem gpl_sz {k:Nat} {z:GQ} (h:smB k (fR z.re) (fR z.im)=true):GSz k z:=by
 unfold smB at h
 simp only [Bool.not_eq_true',Bool.or_eq_false_iff] at h
 exact ⟨⟨gpl_no h.1,by rw [sz_nat]; exact gpl_no h.2.1⟩,⟨gpl_no h.2.2.1,by rw [sz_nat]; exact gpl_no h.2.2.2⟩⟩
theorem gpl_rt {z:GQ} (hz:GSz 80 z) (hf:FitG z):Nonempty (RtW z):=by
 rcases gq_all hz hf with ⟨⟨Y⟩⟩ | ⟨w,⟨Y⟩⟩
 · exact ⟨.no Y⟩
 · exact ⟨.yes w Y⟩
theorem gpl_iz {z:GQ} (hz:GSz 80 z):IZ 160 160 z:=IZ.of_sz hz.1 hz.2
theorem gpl_pz {z:GQ} (hz:GSz 80 z) {n:Nat} (hn:n≤64) (j:Nat) (hj:j≤n):GSz gpK4 (gpw z j):=by
 have h:=gpw_iz (gpl_iz hz) j
 obtain ⟨u,v,w,h0,hu,hv,hw,e1,e2⟩:=h
 have hb:max (j*(160+1)+2) (j*160+2)≤gpK4:=Nat.le_trans (Nat.max_le.2 ⟨(by omega:j*(160+1)+2≤20000),(by omega:j*160+2≤20000)⟩) (by decide)
 exact ⟨(sz_over h0 hu hw e1 (by omega)).mono hb,(sz_over h0 hv hw e2 (by omega)).mono hb⟩
theorem gpl_bz {z:GQ} (hz:GSz 80 z) {n:Int} (h0:0≤n∨gzero z=false):IZ 323 323 (gpB z n):=by
 by_cases hn:0≤n
 · rw [show gpB z n=z from if_pos hn]
   exact (gpl_iz hz).mono (by decide) (by decide)
 · rw [show gpB z n=gdiv (gint 1 0) z from if_neg hn]
   have h1:IZ 2 2 (gint 1 0):=IZ.of_sz (k:=1) (Sz.small (n:=1) (by decide)) (Sz.small (n:=0) (by decide))
   exact (h1.div (gpl_iz hz) (gz_false.1 (h0.resolve_left hn)) (Nat.le_refl (2*160+1))).mono (by decide) (by decide)
theorem gpl_rz {z:GQ} (hz:GSz 80 z) {n:Int} (h0:0≤n∨gzero z=false) (hn:n.natAbs≤64):GSz KB (gpw (gpB z n) n.natAbs):=by
 have h:=gpw_iz (gpl_bz hz h0) n.natAbs
 obtain ⟨u,v,w,h0,hu,hv,hw,e1,e2⟩:=h
 have hb:max (n.natAbs*(323+1)+2) (n.natAbs*323+2)≤KB:=Nat.le_trans (Nat.max_le.2 ⟨(by omega:n.natAbs*(323+1)+2≤30000),(by omega:n.natAbs*323+2≤30000)⟩) (by decide)
 exact ⟨(sz_over h0 hu hw e1 (by omega)).mono hb,(sz_over h0 hv hw e2 (by omega)).mono hb⟩
theorem gpl_ok (a:Gn) (n:Int):PlOk (gplA a n):=by
 obtain ⟨t,ht⟩:=PC.all n
 cases hb:smB t.most a.x a.y with
 | false=>exact gpl1 a t ht hb
 | true =>
  cases a with
  | no g h=>exact gpl2 (.no g h) t ht hb rfl
  | ok z hf =>
   have hb':smB t.most (fR z.re) (fR z.im)=true:=hb
   have hm:t.most≤80:=by cases t<;>decide
   have hk:GSz t.most z:=gpl_sz hb'
   have hz:GSz 80 z:=hk.mono hm
   obtain ⟨W⟩:=gpl_rt hz hf
   by_cases h1:n < -64
   · have:t=.A:=by
      cases t
      · rfl
      all_goals (exfalso; revert ht; first | (show 64<n→False; omega) | (show -64≤n∧n < -8→False; omega) | (show 8<n∧n≤64→False; omega) | (show -8≤n∧n < -2→False; omega) | (show 2<n∧n≤8→False; omega) | (show -2≤n∧n≤2→False; omega))
     subst this
     exact gpl3a hf W h1 hb'
   by_cases h2:64<n
   · have:t=.B:=by
      cases t
      case B=>rfl
      all_goals (exfalso; revert ht; first | (show n < -64→False; omega) | (show -64≤n∧n < -8→False; omega) | (show 8<n∧n≤64→False; omega) | (show -8≤n∧n < -2→False; omega) | (show 2<n∧n≤8→False; omega) | (show -2≤n∧n≤2→False; omega))
     subst this
     exact gpl3b hf W h2 hb'
   have h64:n.natAbs≤64:=by omega
   cases hz0:gzero z with
   | true =>
    by_cases hn:n<0
    · exact gpl4 hf W t ht hb' h64 hn hz0
    · have g3:0≤n∨gzero z=false:=.inl (by omega)
      refine gpl5 hf W t ht hb' h64 (b:=false) (decide_eq_false hn) (fun e=>by cases e) hk hm g3 (r:=t.r) ?_ ?_ (gpl_rz hz g3 h64) (fun j hj=>gpl_pz hz h64 j hj) (hz.mono (by decide))
      · cases t
        case A=>exact absurd ht (by show ¬ n < -64; omega)
        case B=>exact absurd ht (by show ¬ 64<n; omega)
        case C=>have ht : -64≤n∧n < -8:=ht; show n.natAbs<128; omega
        case D=>have ht:8<n∧n≤64:=ht; show n.natAbs<128; omega
        case E=>have ht : -8≤n∧n < -2:=ht; show n.natAbs<16; omega
        case F=>have ht:2<n∧n≤8:=ht; show n.natAbs<16; omega
        case G=>have ht : -2≤n∧n≤2:=ht; show n.natAbs<4; omega
      · cases t<;>decide
   | false =>
    have g3:0≤n∨gzero z=false:=.inr hz0
    refine gpl5 hf W t ht hb' h64 (b:=decide (n<0)) rfl (fun _=>hz0) hk hm g3 (r:=t.r) ?_ ?_ (gpl_rz hz g3 h64) (fun j hj=>gpl_pz hz h64 j hj) (hz.mono (by decide))
    · cases t
      case A=>exact absurd ht (by show ¬ n < -64; omega)
      case B=>exact absurd ht (by show ¬ 64<n; omega)
      case C=>have ht : -64≤n∧n < -8:=ht; show n.natAbs<128; omega
      case D=>have ht:8<n∧n≤64:=ht; show n.natAbs<128; omega
      case E=>have ht : -8≤n∧n < -2:=ht; show n.natAbs<16; omega
      case F=>have ht:2<n∧n≤8:=ht; show n.natAbs<16; omega
      case G=>have ht : -2≤n∧n≤2:=ht; show n.natAbs<4; omega
    · cases t<;>decide
theorem _root_.Go.Proofs.YtmfedaakeeiolaaGreat.GaussPowers_walk (x y:R4) (n:Int) (h:(x.s.size≤maxLen∧x.t.size≤maxLen)∧y.s.size≤maxLen∧y.t.size≤maxLen) (hn:(Lit.int .i64 n).wf=true) (w:World) :
  Calls Tryz.prog 7 #[.agg (x.V++y.V).toArray,.int .i64 n] w fun e w'=>e=.returned (.bool true)∧Below w.heap.size w w':=by
 obtain ⟨a,rfl,rfl⟩:=gn_of x y h.1 h.2
 exact (gpl_ok a n (fun _=>nilPl) w).mono fun e w' ⟨xs,_,he,_,hb⟩=>⟨he,hb⟩
end Go.Proofs.YtmfedaakeeiolaaGreat.Y
end
section
namespace Go.Proofs.YtmfedaakeeiolaaGreat
open Go.ChangeShapes Go.WideShapes Go.ChangeAt Go.RowKit
theorem cellsOf_bool:Tryz.prog.cellsOf 4=1:=by kernel_rfl
theorem cellsOf_string:Tryz.prog.cellsOf 9=1:=by kernel_rfl
theorem cellsOf_whole:Tryz.prog.cellsOf 23=2:=by kernel_rfl
theorem cellsOf_frac:Tryz.prog.cellsOf 25=4:=by kernel_rfl
section
variable {H:Type} {enc:TypeId × Value→H} {w:World} {base:Nat} {spare:Nat→Bool} {held:Bool}
set_option maxRecDepth 100000 in
theorem trod_whole {fuel:Nat} {cs:List Value} {x:DataW H × List MemPlace} (h:DataW.trod enc Tryz.prog w base spare held fuel 23 cs=some x) :
  ∃ (b:Bool) (s:ByteArray),cs=[.bool b,.string s]∧s.size≤maxLen:=by
 obtain ⟨xs,n,rfl,_,hlen,hxl,hf⟩:=DataW.trod_struct Tryz.underlying23 h
 rw [cellsOf_whole] at hlen
 have hx0:xs[0]?=some (xs[0]'(by rw [hxl]; decide)):=List.getElem?_eq_getElem _
 have hx1:xs[1]?=some (xs[1]'(by rw [hxl]; decide)):=List.getElem?_eq_getElem _
 have h0:DataW.trod enc Tryz.prog w base spare held n 4 ((cs.drop 0).take (Tryz.prog.cellsOf 4))=some _:=(hf 0 _ rfl).trans hx0
 have h1:DataW.trod enc Tryz.prog w base spare held n 9 ((cs.drop 1).take (Tryz.prog.cellsOf 9))=some _:=(hf 1 _ rfl).trans hx1
 rw [cellsOf_bool] at h0
 rw [cellsOf_string] at h1
 match cs,hlen with
 | [a,b],_ =>
  obtain ⟨p,e0,_⟩:=DataW.trod_bool Tryz.underlying4 h0
  obtain ⟨s,e1,_,hs⟩:=DataW.trod_string Tryz.underlying9 h1
  cases e0
  cases e1
  exact ⟨p,s,rfl,hs⟩
set_option maxRecDepth 100000 in
theorem trod_frac {fuel:Nat} {cs:List Value} {x:DataW H × List MemPlace} (h:DataW.trod enc Tryz.prog w base spare held fuel 25 cs=some x) :
  ∃ (b c:Bool) (s t:ByteArray),cs=[.bool b,.string s,.bool c,.string t]∧s.size≤maxLen∧t.size≤maxLen:=by
 obtain ⟨xs,n,rfl,_,hlen,hxl,hf⟩:=DataW.trod_struct Tryz.underlying25 h
 rw [cellsOf_frac] at hlen
 have hx0:xs[0]?=some (xs[0]'(by rw [hxl]; decide)):=List.getElem?_eq_getElem _
 have hx1:xs[1]?=some (xs[1]'(by rw [hxl]; decide)):=List.getElem?_eq_getElem _
 have h0:DataW.trod enc Tryz.prog w base spare held n 23 ((cs.drop 0).take (Tryz.prog.cellsOf 23))=some _:=(hf 0 _ rfl).trans hx0
 have h1:DataW.trod enc Tryz.prog w base spare held n 23 ((cs.drop 2).take (Tryz.prog.cellsOf 23))=some _:=(hf 1 _ rfl).trans hx1
 rw [cellsOf_whole] at h0 h1
 match cs,hlen with
 | [a,b,c,d],_ =>
  obtain ⟨p,s,e0,hs⟩:=trod_whole h0
  obtain ⟨q,t,e1,ht⟩:=trod_whole h1
  cases e0
  cases e1
  exact ⟨p,q,s,t,rfl,hs,ht⟩
end
end Go.Proofs.YtmfedaakeeiolaaGreat
end
section
namespace Go.Proofs.YtmfedaakeeiolaaGreat
open Go Go.ChangeShapes Go.WideShapes Go.ChangeAt Go.RowKit
theorem cellsOf_gauss:Tryz.prog.cellsOf 37=8:=by kernel_rfl
theorem chunk {α:Type} (cs:List α) (a b:Nat):cs.drop a=(cs.drop a).take b++cs.drop (a+b):=by
 rw [← List.drop_drop,List.take_append_drop]
def R4.ok (x:R4):Prop:=x.s.size≤maxLen∧x.t.size≤maxLen
section
variable {H:Type} {enc:TypeId × Value→H} {w:World} {base:Nat} {spare:Nat→Bool} {held:Bool}
theorem trod_r4 {fuel:Nat} {cs:List Value} {x:DataW H × List MemPlace} (h:DataW.trod enc Tryz.prog w base spare held fuel 25 cs=some x):∃ r:R4,cs=r.V∧r.ok:=by
 obtain ⟨b,c,s,t,e,h1,h2⟩:=trod_frac h
 exact ⟨⟨b,s,c,t⟩,e,h1,h2⟩
set_option maxRecDepth 100000 in
theorem trod_gauss {fuel:Nat} {cs:List Value} {x:DataW H × List MemPlace} (h:DataW.trod enc Tryz.prog w base spare held fuel 37 cs=some x):∃ r s:R4,cs=r.V++s.V∧r.ok∧s.ok:=by
 obtain ⟨xs,n,rfl,_,hlen,hxl,hf⟩:=DataW.trod_struct Tryz.underlying37 h
 rw [cellsOf_gauss] at hlen
 have hx0:xs[0]?=some (xs[0]'(by rw [hxl]; decide)):=List.getElem?_eq_getElem _
 have hx1:xs[1]?=some (xs[1]'(by rw [hxl]; decide)):=List.getElem?_eq_getElem _
 have h0:DataW.trod enc Tryz.prog w base spare held n 25 ((cs.drop 0).take (Tryz.prog.cellsOf 25))=some _:=(hf 0 _ rfl).trans hx0
 have h1:DataW.trod enc Tryz.prog w base spare held n 25 ((cs.drop 4).take (Tryz.prog.cellsOf 25))=some _:=(hf 1 _ rfl).trans hx1
 rw [cellsOf_frac] at h0 h1
 obtain ⟨r,e0,k0⟩:=trod_r4 h0
 obtain ⟨s,e1,k1⟩:=trod_r4 h1
 refine ⟨r,s,?_,k0,k1⟩
 have:=chunk cs 0 4
 rw [e0,List.drop_zero] at this
 rw [this,chunk cs (0+4) 4,e1,List.drop_of_length_le (by omega),List.append_nil]
end
section
variable {H:Type} {enc:TypeId × Value→H} {w:World} {base:Nat} {spare:Nat→Bool} {held:Bool}
set_option maxRecDepth 100000 in
theorem open_gauss {r:Reach} {b0:Nat} {v:Value} {d:DataW H} {p:List MemPlace} (hv:Value.okWide Tryz.prog w r b0 37 v) (h:DataW.Trod enc Tryz.prog w base spare held 37 v d p) :
  ∃ x y:R4,v=.agg (x.V++y.V).toArray∧x.ok∧y.ok:=by
 obtain ⟨cs,rfl,hsz⟩:=okWide_struct Tryz.underlying37 hv
 obtain ⟨fuel,hf⟩:=h
 obtain ⟨l⟩:=cs
 obtain ⟨a,b,rfl,hh⟩:=trod_gauss hf
 exact ⟨a,b,rfl,hh⟩
end
end Go.Proofs.YtmfedaakeeiolaaGreat
end
