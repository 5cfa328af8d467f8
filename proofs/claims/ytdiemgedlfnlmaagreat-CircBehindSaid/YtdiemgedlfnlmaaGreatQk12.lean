/- Txt, GsT, CiC, CiD, CiE, CiF, Join, CiG, MtB, MwA, Yd, G1, MtA, MtD, MtI, SyC, MpM, MtF, MvM, MpW, MwM, MwN, MwB, MwC, CbM. -/
import Derived.Shelf.Strings.Builder1
import Derived.Shelf.Strings.Builder2
import Derived.Shelf.Strings.OnBuilder
import Derived.Test.YtdiemgedlfnlmaaGreatQk11
set_option linter.unnecessarySimpa false
set_option linter.unusedVariables false
set_option linter.unusedSimpArgs false
section
namespace Go.Proofs.YtdiemgedlfnlmaaGreat
open Go.RowKit
set_option maxHeartbeats 1600000 in
set_option maxRecDepth 100000 in
theorem WText_any {w0:World} (b:Bool) (s:ByteArray) (hs:s.size≤4294967296) :
  Calls Tryz.prog 257 #[.agg #[.bool b,.string s]] w0 fun e w'=>∃ u k,e=.returned (.tuple #[.string u,.int .i64 k])∧(WholeOk b s∧u=textN (numOf b s)∧k=0∨¬ WholeOk b s∧u=⟨#[]⟩∧k=2)∧Below w0.heap.size w0 w':=by
 have HS:=Lib.hid hs
 have h1:=below_new w0 (.cells #[.bool b,.string s] 23)
 have h2:=below_new (w0.alloc (.cells #[.bool b,.string s] 23)) (.cells #[.bool b,.string s] 23)
 have HB:=Lib.hid (h1.trans (h2.mono h1.size))
 have HX:=Lib.hid (BoxAt.new_at (w:=w0.alloc (.cells #[.bool b,.string s] 23)) #[.bool b,.string s] 23 (size_alloc w0 _).symm)
 clear hs h1 h2
 go_enter Tryz.func257,Tryz.ntmps257
 go_wp2_with fail
 refine (of_one b s HS.out HX.out).mono ?_
 rintro e w1 ⟨h,hb⟩
 have HB1:=Lib.hid (HB.out.trans (hb.mono HB.out.size))
 clear hb
 rcases h with ⟨ho,g,cap,p,rfl,hc,hi⟩ | ⟨ho,rfl⟩
 · have HO:=Lib.hid ho
   have HI:=Lib.hid hi
   have KT:Hid (Okt (numOf b s)):=by
    have h3:(mag (numOf b s).natAbs).size≤16384:=by rw [(numOf_ok ho).2.1]; exact ho.2
    have:=wl_size h3
    unfold Hid Okt
    omega
   clear ho hi
   go_wp2_with fail
   refine (String_any HI.out KT.out).mono ?_
   rintro e w2 ⟨rfl,hb⟩
   have HB2:=Lib.hid (HB1.out.trans (hb.mono HB1.out.size))
   clear hb hc
   go_wp2
   go_ret2
   exact ⟨_,_,rfl,.inl ⟨HO.out,rfl,rfl⟩,HB2.out⟩
 · have HO:=Lib.hid ho
   clear ho
   go_wp2
   go_ret2
   exact ⟨_,_,rfl,.inr ⟨HO.out,rfl,rfl⟩,HB1.out⟩
theorem textN_len (n:Int):(textN n).size≤32*(dig n.natAbs).length+1:=by
 rw [textN_size]
 unfold txt
 have:=dd_len_words n.natAbs
 split
 · simp
 · rw [List.length_reverse,List.length_append]
   split<;>simp<;>omega
theorem textN_small {n:Int} (h:(mag n.natAbs).size≤16384):(textN n).size≤200000:=by
 have h1:=textN_len n
 have h2:=wl_size h
 omega
def textQ (x:Rat):ByteArray:=if x.den=1 then textN x.num else textN x.num++(⟨#[47]⟩++textN (x.den:Int))
def TextAns (va:Value) (u:ByteArray) (k:Int):Prop:=(∃ x,Fit x∧va=fracV x∧u=textQ x∧k=0)∨(¬ IsFrac va∧u=⟨#[]⟩∧k=2)
theorem parts_den {b c:Bool} {s t:ByteArray} {x:Rat} (h:FracParts b s c t x):c=false∧t=mag x.den∧WholeOk false t∧numOf false t=(x.den:Int):=by
 have h2:=(isFrac_parts h.isFrac).2.1
 obtain ⟨rfl,rfl,rfl,rfl⟩:=agg4 h.val
 refine ⟨rfl,rfl,h2,?_⟩
 have:=numOf_mag (x.den:Int)
 rwa [show decide ((x.den:Int)<0)=false by simp,Int.natAbs_natCast] at this
set_option maxHeartbeats 3200000 in
set_option maxRecDepth 100000 in
theorem FText_any {w0:World} (b c:Bool) (s t:ByteArray) (hs:s.size≤maxLen) (ht:t.size≤maxLen) :
  Calls Tryz.prog 123 #[.agg #[.bool b,.string s,.bool c,.string t]] w0 fun e w'=>∃ u k,e=.returned (.tuple #[.string u,.int .i64 k])∧TextAns (.agg #[.bool b,.string s,.bool c,.string t]) u k∧Below w0.heap.size w0 w':=by
 have HS:=Lib.hid hs
 have HT:=Lib.hid ht
 have HW0:=Lib.hid (below_new w0 (.cells #[.bool b,.string s,.bool c,.string t] 25))
 have HX0:=Lib.hid (BoxAt.new w0 #[.bool b,.string s,.bool c,.string t] 25)
 clear hs ht
 go_enter Tryz.func123,Tryz.ntmps123
 go_wp2_with fail
 refine (May_any b c s t HS.out HT.out).mono ?_
 rintro e w1 ⟨r,rfl,hr,hb⟩
 have HX1:=Lib.hid (HX0.out.on hb)
 have HW1:=Lib.hid (HW0.out.trans (hb.mono HW0.out.size))
 have HR:=Lib.hid hr
 clear hb hr
 cases r
 · go_wp2
   go_ret2
   exact ⟨_,_,rfl,.inr ⟨fun h=>Bool.noConfusion (HR.out.2 h),rfl,rfl⟩,HW1.out⟩
 obtain ⟨x,hx⟩:=parts_of (by first | exact HR.out.1 rfl | exact HR.out.1 trivial)
 have HX:=Lib.hid hx
 obtain ⟨rfl,ht2,ho2,hn2⟩:=parts_den hx
 have HT2:=Lib.hid ht2
 have HO2:=Lib.hid ho2
 have HN2:=Lib.hid hn2
 have hc0:=HX1.out.cell 0 (.bool b) rfl
 have hc1:=HX1.out.cell 1 (.string s) rfl
 clear hx HR ht2 ho2 hn2
 go_wp2_with fail
 refine (WText_any b s HX.out.hs).mono ?_
 rintro e w2 ⟨un,k,rfl,hu,hb⟩
 have HU:Hid (un=textN x.num):=by
  obtain ⟨h1,h2⟩:=fracV_num HX.out
  rcases hu with h | h
  · rw [← h2]; exact h.2.1
  · exact absurd h1 h.1
 have HX2:=Lib.hid (HX1.out.on hb)
 have HW2:=Lib.hid (HW1.out.trans (hb.mono HW1.out.size))
 clear hu hb hc0 hc1
 go_wp2
 refine wp_region_acts 4 (fun w'=>Below w0.heap.size w0 w'∧BoxAt w' w0.heap.size #[.bool b,.string s,.bool false,.string t] 25) (fun w w'=>Below w.heap.size w w') (fun i w v=>match i with
   | 0=>v=.pointer (some ⟨w0.heap.size,2,none⟩)
   | 1=>v=.agg #[.bool false,.string t]
   | 2=>∃ g,v=.pointer (some ⟨g,0,none⟩)∧IntAt w g 0 1
   | _=>∃ s',v=.agg #[.bool false,.string s']∧Hid (s'=mag 1)) (by kernel_rfl) (by kernel_rfl) (by kernel_rfl) ⟨HW2.out.drew,HX2.out⟩ (fun _ _=>(Below.refl _ _)) ?_ ⟨?_,?_,?_,?_,trivial⟩ ?_
 · intro i w1 w2 v hC hC2 hE hV
   match i with
   | 0=>exact hV
   | 1=>exact hV
   | 2=>obtain ⟨g,e,h⟩:=hV; exact ⟨g,e,h.on hE⟩
   | _+3=>exact hV
 · intro a' w' hag hC hd K hK
   have e1:a'.tmps.getD 1 undef=.pointer (some ⟨w0.heap.size,0,none⟩):=hag 1 rfl
   go_step
   exact hK _ _ hC ((Below.refl _ _)) rfl
 · intro a' w' hag hC hd K hK
   have e17:a'.tmps.getD 17 undef=.pointer (some ⟨w0.heap.size,2,none⟩):=hd.1
   have hc0:=hC.2.cell 2 (.bool false) rfl
   have hc1:=hC.2.cell 3 (.string t) rfl
   have HK:=Lib.hid (hK (.agg #[.bool false,.string t]) _ hC (Below.refl _ _) rfl)
   clear hK hC
   go_step
   exact HK.out
 · intro a' w' hag hC hd K hK
   go_step
   refine (NewInt_any (n:=1) (by decide)).mono ?_
   rintro e w2 ⟨g,rfl,hg,h1,h2⟩
   exact hK _ _ ⟨hC.1.trans (h2.mono hC.1.size),hC.2.on h2⟩ h2 ⟨_,rfl,h1⟩
 · intro a' w' hag hC hd K hK
   obtain ⟨g19,e19,h19⟩:=hd.1
   have e19:a'.tmps.getD 19 undef=.pointer (some ⟨g19,0,none⟩):=e19
   go_step
   refine (back_agg h19 (okn_i64 (by decide))).mono ?_
   rintro e w2 ⟨p,s',rfl,h1,h2,hb⟩
   have hp:p=false:=by rw [h1.out]; rfl
   subst hp
   exact hK _ _ ⟨hC.1.trans (hb.mono hC.1.size),hC.2.on hb⟩ hb ⟨s',rfl,h2⟩
 · intro u w' hC hall
   obtain ⟨u0,u1,u2,u3,_⟩:=hall
   have u0:u 0=.pointer (some ⟨w0.heap.size,2,none⟩):=u0
   have u1:u 1=.agg #[.bool false,.string t]:=u1
   obtain ⟨s20,eu3,hs20⟩:=u3
   have u3:u 3=.agg #[.bool false,.string s20]:=eu3
   simp only [fillR,List.take_succ_cons,List.take_zero,Act.put,List.setIfInBounds_toArray,List.set_cons_succ,List.set_cons_zero,Nat.zero_add,Nat.reduceAdd,u0,u1,u3]
   clear u0 u1 u3
   have HC:=Lib.hid hC.1
   have HX3:=Lib.hid hC.2
   clear hC
   by_cases hd:t.toList=s20.toList
   · have HD:Hid (x.den=1):=by
      have h1:=toList_inj.1 hd
      rw [HT2.out,hs20.out] at h1
      exact mag_inj h1
     go_wp2
     go_ret2
     exact ⟨_,_,rfl,.inl ⟨x,HX.out.fit,HX.out.val,by rw [textQ,if_pos HD.out]; exact HU.out,rfl⟩,HC.out⟩
   · have HD:Hid (¬ x.den=1):=fun e=>hd (by rw [HT2.out,hs20.out,e])
     have hc0:=HX3.out.cell 2 (.bool false) rfl
     have hc1:=HX3.out.cell 3 (.string t) rfl
     go_wp2_with fail
     refine (WText_any false t HX.out.ht).mono ?_
     rintro e w4 ⟨u2,k2,rfl,hu,hb⟩
     have HU2:Hid (u2=textN (x.den:Int)):=by
      rcases hu with h | h
      · rw [← HN2.out]; exact h.2.1
      · exact absurd HO2.out h.1
     have HB:=Lib.hid (HC.out.trans (hb.mono HC.out.size))
     have hu1:un.size≤200000:=by rw [HU.out]; exact textN_small (Nat.le_trans HX.out.fit.1 (by decide))
     have hu2:u2.size≤200000:=by rw [HU2.out]; exact textN_small (by rw [Int.natAbs_natCast]; exact Nat.le_trans HX.out.fit.2 (by decide))
     have hu3:((⟨#[47]⟩:ByteArray)++u2).size≤200001:=by rw [ByteArray.size_append]; show 1+u2.size≤_; omega
     clear hu hb hc0 hc1
     go_wp2
     go_ret2
     exact ⟨_,_,rfl,.inl ⟨x,HX.out.fit,HX.out.val,by rw [textQ,if_neg HD.out,← HU.out,← HU2.out],rfl⟩,HB.out⟩
end Go.Proofs.YtdiemgedlfnlmaaGreat
end
section
namespace Go.Proofs.YtdiemgedlfnlmaaGreat.Y
open Go Go.RowKit
set_option maxRecDepth 100000
def sFText {x:Rat} (h:Fit x) {u:ByteArray} (hu:textQ x=u):Spec Tryz.prog :=
 ⟨123,Tryz.call123,[.one (.a (fC x))],[],.tup [.c (.b (.v (.string u))),nI' 0],[],fun β w hh=>by
  refine (FText_any (decide (x.num<0)) false (mag x.num.natAbs) (mag x.den) (Nat.le_trans h.1 (by decide)) (Nat.le_trans h.2 (by decide))).mono ?_
  rintro e w' ⟨v,k,rfl,⟨y,_,hy,rfl,rfl⟩ | ⟨hn,_⟩,hb⟩
  · obtain rfl:x=y:=fracV_inj hy
    rw [hu]
    exact ⟨[],(fun _ h=>by cases h),rfl,trivial,hb⟩
  · exact absurd (fitF x h) hn,by kernel_rfl⟩
def z4:List Lf:=[.b (.v (.bool false)),.b (.v (.slice none 0 0)),.b (.v (.bool false)),.b (.v (.slice none 0 0))]
theorem RatAt.zero {w:World} {b:Nat} (hb:w.heap[b]?=some (.cells #[.bool false,.slice none 0 0,.bool false,.slice none 0 0] 188 (0,0))):RatAt w b 0 0:=by
 refine ⟨⟨_,_,hb,by decide,by simp⟩,⟨⟨_,_,hb,by decide,by simp⟩,?_,.slice none 0 0,?_,?_⟩,0,⟨⟨_,_,hb,by decide,by simp⟩,?_,.slice none 0 0,?_,?_⟩,.inr ⟨rfl,rfl⟩⟩
 · rw [cell_of_row _ _ _ _ _ _ hb]; rfl
 · rw [cell_of_row _ _ _ _ _ _ hb]; rfl
 · rw [show (0:Rat).num=0 from rfl,Int.natAbs_zero,dig_zero]; exact Words.nil _
 · rw [cell_of_row _ _ _ _ _ _ hb]; rfl
 · rw [cell_of_row _ _ _ _ _ _ hb]; rfl
 · rw [Int.natAbs_zero,dig_zero]; exact Words.nil _
theorem okr0:Sz KB (0:Rat):=sz_zero.mono (by decide)
def eSum0 {y:Rat} (i n k:Nat) (hy:Sz KB y):Ev Tryz.prog:=.refill 255 Tryz.call255 (fun β=>#[.pointer (some ⟨(β i).b,0,none⟩),.pointer (some ⟨(β i).b,0,none⟩),.pointer ((β k).v 0)]) [(i,.box z4 188),(k,(ratT y).ob)] i i 4 n (ratT (0+y))
 (fun β w h hji ho hs=>by
  have hb:(Ob.box z4 188).holds β w (β i):=h (i,.box z4 188) (by simp)
  obtain ⟨b,hb2,kb⟩:=needP (x:=y) (k:=k) h (by simp)
  simp only [hb2.1]
  exact fillP ho (rAdd_any hs (RatAt.zero hb.2) kb (okr0.okR2 (by decide)) (hy.okR2 (by decide))))
def eSumP {x y:Rat} (i j n k:Nat) (hx:Sz KB x) (hy:Sz KB y):Ev Tryz.prog:=.refill 255 Tryz.call255 (fun β=>#[.pointer (some ⟨(β i).b,0,none⟩),.pointer (some ⟨(β i).b,0,none⟩),.pointer ((β k).v 0)]) [(j,(ratT x).ob),(k,(ratT y).ob)] i j 4 n (ratT (x+y))
 (fun β w h hji ho hs=>by
  obtain ⟨a,ha,ka⟩:=needP (x:=x) (k:=j) h (by simp)
  obtain ⟨b,hb,kb⟩:=needP (x:=y) (k:=k) h (by simp)
  have e:=one_at ho (hji▸ha)
  subst e
  simp only [hb.1]
  exact fillP ho (rAdd_any hs ka kb (hx.okR2 (by decide)) (hy.okR2 (by decide))))
def eSumZ {x y:Rat} (i j n k:Nat) (hx:Sz KB x) (hy:Sz KB y):Ev Tryz.prog:=.refill 255 Tryz.call255 (fun β=>#[.pointer ((β j).v 0),.pointer ((β j).v 0),.pointer ((β k).v 0)]) [(j,(ratT x).ob),(k,(ratT y).ob)] i j 4 n (ratT (x+y))
 (fun β w h hji ho hs=>by
  obtain ⟨a,ha,ka⟩:=needP (x:=x) (k:=j) h (by simp)
  obtain ⟨b,hb,kb⟩:=needP (x:=y) (k:=k) h (by simp)
  have e:=one_at ho (hji▸ha)
  subst e
  simp only [ha.1,hb.1]
  exact fillP ho (rAdd_any hs ka kb (hx.okR2 (by decide)) (hy.okR2 (by decide))))
def sum0 {y:Rat} (hy:Sz KB y):Ev Tryz.prog:=.dyn (fun o _ _=>isCallB o) fun _ xs ob=>lit ob.length fun n=>lit (ptOf (xs.getD 0 undefS)) fun i=>lit (ptOf (xs.getD 2 undefS)) fun k=>eSum0 i n k hy
def sumN {x y:Rat} (hx:Sz KB x) (hy:Sz KB y):Ev Tryz.prog:=.dyn (fun o _ _=>isCallB o) fun _ xs ob=>lit ob.length fun n=>lit (ptOf (xs.getD 2 undefS)) fun k=>match xs.getD 0 undefS with
 | .one (.c (.b (.p i _)))=>lit i fun i=>lit ((findA i ob 0).getD 0) fun j=>eSumP i j n k hx hy
 | .one (.c (.b (.z j _)))=>lit j fun j=>lit (alOf ob j) fun i=>eSumZ i j n k hx hy
 | _=>.eqv 0 undef undef rfl
def roQ:Pt→Nat→Rat
 | .inf,0=>Rat.divInt 1 1
 | .inf,_=>Rat.divInt 0 1
 | .fin z,0=>gnorm z
 | .fin z,1=>z.re
 | .fin z,2=>z.im
 | .fin _,_=>Rat.divInt 1 1
abbrev roT (p:Pt):List Thing:=[ratT (roQ p 0),ratT (roQ p 1),ratT (roQ p 2),ratT (roQ p 3)]
def sRow {p:Pt} (hp:FitP p):Spec Tryz.prog :=
 ⟨363,Tryz.call363,[pV 0 p],pM p,.one (.a [.b (.z 2 0),.b (.z 3 0),.b (.z 4 0),.b (.z 5 0)]),roT p,fun β w hh=>by
  cases p with
  | inf=>exact spec_auto (args:=[pV 0 .inf]) (obs:=pM .inf) (res:=.one (.a [.b (.z 2 0),.b (.z 3 0),.b (.z 4 0),.b (.z 5 0)])) (news:=roT .inf) (evs:=[nNew 1 1 (by decide) (by decide) (by decide),nZero,nZero,nZero]) (Ns:=[]) (m:=400) Tryz.func363 hmA (fun β=>by kernel_rfl) (by kernel_rfl) β w hh
  | fin z=>exact spec_auto (args:=[pV 0 (.fin z)]) (obs:=pM (.fin z)) (res:=.one (.a [.b (.z 2 0),.b (.z 3 0),.b (.z 4 0),.b (.z 5 0)])) (news:=roT (.fin z)) (evs:=[(sParts z).e,(sNorm (fitG_sz hp |>.mono (by decide))).e,nNew 1 1 (by decide) (by decide) (by decide)]) (Ns:=[]) (m:=400) Tryz.func363 hmA (fun β=>by kernel_rfl) (by kernel_rfl) β w hh,by cases p<;>kernel_rfl⟩
abbrev KD5:Nat:=5000
theorem ro_sz {p:Pt} (hp:FitP p) (n:Nat):Sz KD5 (roQ p n):=by
 cases p with
 | inf=>match n with
  | 0=>exact one_sz.mono (by decide)
  | n+1=>exact zero_sz.mono (by decide)
 | fin z =>
  have h:GSz 1024 z:=fitG_sz hp
  match n with
  | 0=>exact h.norm.mono (by decide)
  | 1=>exact h.1.mono (by decide)
  | 2=>exact h.2.mono (by decide)
  | n+3=>exact one_sz.mono (by decide)
section
variable {f g h:Nat→Rat} (hf:∀ n,Sz KD5 (f n)) (hg:∀ n,Sz KD5 (g n)) (hh:∀ n,Sz KD5 (h n))
def trm (f g h:Nat→Rat) (s:Int) (a b c:Nat):Rat:=Rat.divInt s 1*(f a*(g b*h c))
def detE (f g h:Nat→Rat) (i j k:Nat):Rat:=0+trm f g h 1 i j k+trm f g h 1 j k i+trm f g h 1 k i j+trm f g h (-1) i k j+trm f g h (-1) j i k+trm f g h (-1) k j i
abbrev KT:Nat:=15008
include hf hg hh in
theorem trm1_sz (a b c:Nat):Sz KT (trm f g h 1 a b c):=((sz_lit 1 1 (by decide) (by decide) (by decide)).mul ((hf a).mul ((hg b).mul (hh c)))).mono (by decide)
include hf hg hh in
theorem trmN_sz (a b c:Nat):Sz KT (trm f g h (-1) a b c):=((sz_lit (-1) 1 (by decide) (by decide) (by decide)).mul ((hf a).mul ((hg b).mul (hh c)))).mono (by decide)
def tmE (s:Int) (hs : -9223372036854775808≤s∧s≤9223372036854775807) (hz:Sz 8 (Rat.divInt s 1)) (a b c:Nat):List (Ev Tryz.prog) :=
 [nNew s 1 hs (by decide) (by decide),(sMulR ((hg b).mono (by decide)) ((hh c).mono (by decide))).e,(sMulR ((hf a).mono (by decide)) (((hg b).mul (hh c)).mono (by decide))).e,(sMulR (hz.mono (by decide)) (((hf a).mul ((hg b).mul (hh c))).mono (by decide))).e]
theorem one8:Sz 8 (Rat.divInt 1 1):=sz_lit 1 1 (by decide) (by decide) (by decide)
theorem mone8:Sz 8 (Rat.divInt (-1) 1):=sz_lit (-1) 1 (by decide) (by decide) (by decide)
include hf hg hh in
theorem det_szs (i j k:Nat):Sz (1+KT+1) (0+trm f g h 1 i j k)∧Sz (1+KT+1+KT+1) (0+trm f g h 1 i j k+trm f g h 1 j k i)∧Sz (1+KT+1+KT+1+KT+1) (0+trm f g h 1 i j k+trm f g h 1 j k i+trm f g h 1 k i j) ∧
  Sz (1+KT+1+KT+1+KT+1+KT+1) (0+trm f g h 1 i j k+trm f g h 1 j k i+trm f g h 1 k i j+trm f g h (-1) i k j)∧Sz (1+KT+1+KT+1+KT+1+KT+1+KT+1) (0+trm f g h 1 i j k+trm f g h 1 j k i+trm f g h 1 k i j+trm f g h (-1) i k j+trm f g h (-1) j i k)∧Sz 100000 (detE f g h i j k):=by
 have a1:=sz_zero.add (trm1_sz hf hg hh i j k)
 have a2:=a1.add (trm1_sz hf hg hh j k i)
 have a3:=a2.add (trm1_sz hf hg hh k i j)
 have a4:=a3.add (trmN_sz hf hg hh i k j)
 have a5:=a4.add (trmN_sz hf hg hh j i k)
 have a6:=a5.add (trmN_sz hf hg hh k j i)
 exact ⟨a1,a2,a3,a4,a5,a6.mono (by decide)⟩
abbrev iV (n:Nat):SV:=.one (.c (.b (.v (.int .i64 (n:Int)))))
abbrev rowO (f g h:Nat→Rat):List Ob:=[(ratT (f 0)).ob,(ratT (f 1)).ob,(ratT (f 2)).ob,(ratT (f 3)).ob,(ratT (g 0)).ob,(ratT (g 1)).ob,(ratT (g 2)).ob,(ratT (g 3)).ob,(ratT (h 0)).ob,(ratT (h 1)).ob,(ratT (h 2)).ob,(ratT (h 3)).ob,
 .box [.b (.z 0 0),.b (.z 1 0),.b (.z 2 0),.b (.z 3 0),.b (.z 4 0),.b (.z 5 0),.b (.z 6 0),.b (.z 7 0),.b (.z 8 0),.b (.z 9 0),.b (.z 10 0),.b (.z 11 0)] 367]
def detEv (i j k:Nat):List (Ev Tryz.prog) :=
 have z:=det_szs hf hg hh i j k
 tmE hf hg hh 1 (by decide) one8 i j k++[sum0 ((trm1_sz hf hg hh i j k).mono (by decide))]++tmE hf hg hh 1 (by decide) one8 j k i++[sumN (z.1.mono (by decide)) ((trm1_sz hf hg hh j k i).mono (by decide))] ++
  tmE hf hg hh 1 (by decide) one8 k i j++[sumN (z.2.1.mono (by decide)) ((trm1_sz hf hg hh k i j).mono (by decide))]++tmE hf hg hh (-1) (by decide) mone8 i k j++[sumN (z.2.2.1.mono (by decide)) ((trmN_sz hf hg hh i k j).mono (by decide))] ++
  tmE hf hg hh (-1) (by decide) mone8 j i k++[sumN (z.2.2.2.1.mono (by decide)) ((trmN_sz hf hg hh j i k).mono (by decide))]++tmE hf hg hh (-1) (by decide) mone8 k j i++[sumN (z.2.2.2.2.1.mono (by decide)) ((trmN_sz hf hg hh k j i).mono (by decide))]
noncomputable def sDet123:OSpec Tryz.prog :=
 OSpec.auto Tryz.call364 [iV 1,iV 2,iV 3,.one (.c (.b (.p 12 0)))] (rowO f g h) (rV 13) [detE f g h 1 2 3] (detEv hf hg hh 1 2 3) [(5,23)] 3000 Tryz.func364 hmA (by kernel_rfl) (fun β=>by kernel_rfl)
noncomputable def sDet023:OSpec Tryz.prog :=
 OSpec.auto Tryz.call364 [iV 0,iV 2,iV 3,.one (.c (.b (.p 12 0)))] (rowO f g h) (rV 13) [detE f g h 0 2 3] (detEv hf hg hh 0 2 3) [(5,23)] 3000 Tryz.func364 hmA (by kernel_rfl) (fun β=>by kernel_rfl)
noncomputable def sDet013:OSpec Tryz.prog :=
 OSpec.auto Tryz.call364 [iV 0,iV 1,iV 3,.one (.c (.b (.p 12 0)))] (rowO f g h) (rV 13) [detE f g h 0 1 3] (detEv hf hg hh 0 1 3) [(5,23)] 3000 Tryz.func364 hmA (by kernel_rfl) (fun β=>by kernel_rfl)
noncomputable def sDet012:OSpec Tryz.prog :=
 OSpec.auto Tryz.call364 [iV 0,iV 1,iV 2,.one (.c (.b (.p 12 0)))] (rowO f g h) (rV 13) [detE f g h 0 1 2] (detEv hf hg hh 0 1 2) [(5,23)] 3000 Tryz.func364 hmA (by kernel_rfl) (fun β=>by kernel_rfl)
end
theorem rat_self {x:Rat} (h:x≠0):x*x⁻¹=1:=Rat.mul_inv_cancel x h
theorem rby_one {r:RQ} (h0:rby r≠0):rby (rone r)=1:=by
 unfold rone
 generalize hx:rby r=x at h0 ⊢
 unfold rby rbyQ at hx
 have key:∀ y:Rat,y=0→y*x⁻¹=0:=fun y e=>by rw [e,Rat.zero_mul]
 cases h1:decide (r.a=0) with
 | false =>
  rw [h1] at hx
  have e:(rnm r x).a=1:=by show r.a*x⁻¹=1; rw [show r.a=x from hx]; exact rat_self h0
  unfold rby rbyQ
  rw [show decide ((rnm r x).a=0)=false by rw [e]; decide]
  exact e
 | true =>
  have ha:(rnm r x).a=0:=key _ (of_decide_eq_true h1)
  cases h2:decide (r.b.re=0) with
  | false =>
   rw [h1,h2] at hx
   have e:(rnm r x).b.re=1:=by show r.b.re*x⁻¹=1; rw [show r.b.re=x from hx]; exact rat_self h0
   unfold rby rbyQ
   rw [show decide ((rnm r x).a=0)=true by rw [ha]; decide,show decide ((rnm r x).b.re=0)=false by rw [e]; decide]
   exact e
  | true =>
   rw [h1,h2] at hx
   have hr:(rnm r x).b.re=0:=key _ (of_decide_eq_true h2)
   have e:(rnm r x).b.im=1:=by show r.b.im*x⁻¹=1; rw [show r.b.im=x from hx]; exact rat_self h0
   unfold rby rbyQ
   rw [show decide ((rnm r x).a=0)=true by rw [ha]; decide,show decide ((rnm r x).b.re=0)=true by rw [hr]; decide]
   exact e
theorem rone_rone {r:RQ} (h0:rby r≠0):rone (rone r)=rone r:=by
 have h1:(1:Rat)⁻¹=1:=of_decide_eq_true (by kernel_rfl:decide ((1:Rat)⁻¹=1)=true)
 have h:∀ s:RQ,rnm s 1=s:=fun s=>by
  unfold rnm gscale
  rw [h1,Rat.mul_one,Rat.mul_one,Rat.mul_one,Rat.mul_one]
 have:rone (rone r)=rnm (rone r) 1:=by rw [← rby_one h0]; rfl
 rw [this,h]
theorem sq_sum {x y:Rat} (h:x*x+y*y=0):x=0∧y=0:=by
 have hn:∀ z:Rat,0≤z*z:=fun z=>by
  rcases Rat.le_total (a:=0) (b:=z) with h | h
  · exact Rat.mul_nonneg h h
  · have:=Rat.mul_nonneg (a:=-z) (b:=-z) (by grind) (by grind)
    grind
 have h1:=hn x
 have h2:=hn y
 have e1:x*x=0:=by grind
 have e2:y*y=0:=by grind
 exact ⟨by rcases Rat.mul_eq_zero.1 e1 with h | h<;>exact h,by rcases Rat.mul_eq_zero.1 e2 with h | h<;>exact h⟩
theorem tri_no {a b u1 u2 v1 v2:Rat} (hu:¬ (u1=0∧u2=0)) (hv:¬ (v1=0∧v2=0)) (hd:¬ (u1-v1=0∧u2-v2=0))
  (k1:u1*v2-u2*v1=0) (k2:(2*(a*u1+b*u2)+(u1*u1+u2*u2))*v2=(2*(a*v1+b*v2)+(v1*v1+v2*v2))*u2)
  (k3:(2*(a*u1+b*u2)+(u1*u1+u2*u2))*v1=(2*(a*v1+b*v2)+(v1*v1+v2*v2))*u1):False:=by
 have a1:(a*u1+b*u2)*(v1*v1+v2*v2)=(a*v1+b*v2)*(u1*v1+u2*v2):=by
  have:(a*u1+b*u2)*(v1*v1+v2*v2)-(a*v1+b*v2)*(u1*v1+u2*v2)=(a*v2-b*v1)*(u1*v2-u2*v1):=by grind
  rw [k1,Rat.mul_zero] at this
  grind
 have a2:(a*u1+b*u2)*(u1*v1+u2*v2)=(a*v1+b*v2)*(u1*u1+u2*u2):=by
  have:(a*u1+b*u2)*(u1*v1+u2*v2)-(a*v1+b*v2)*(u1*u1+u2*u2)=(a*u2-b*u1)*(u1*v2-u2*v1):=by grind
  rw [k1,Rat.mul_zero] at this
  grind
 have b1:(2*(a*u1+b*u2)+(u1*u1+u2*u2))*(v1*v1+v2*v2)=(2*(a*v1+b*v2)+(v1*v1+v2*v2))*(u1*v1+u2*v2):=by
  have:(2*(a*u1+b*u2)+(u1*u1+u2*u2))*(v1*v1+v2*v2)=((2*(a*u1+b*u2)+(u1*u1+u2*u2))*v1)*v1+((2*(a*u1+b*u2)+(u1*u1+u2*u2))*v2)*v2:=by grind
  rw [this,k3,k2]
  grind
 have b2:(2*(a*u1+b*u2)+(u1*u1+u2*u2))*(u1*v1+u2*v2)=(2*(a*v1+b*v2)+(v1*v1+v2*v2))*(u1*u1+u2*u2):=by
  have:(2*(a*u1+b*u2)+(u1*u1+u2*u2))*(u1*v1+u2*v2)=((2*(a*u1+b*u2)+(u1*u1+u2*u2))*v1)*u1+((2*(a*u1+b*u2)+(u1*u1+u2*u2))*v2)*u2:=by grind
  rw [this,k3,k2]
  grind
 generalize hα:a*u1+b*u2=α at *
 generalize hβ:a*v1+b*v2=β at *
 generalize hS:u1*u1+u2*u2=S at *
 generalize hT:v1*v1+v2*v2=T at *
 generalize hP:u1*v1+u2*v2=Q at *
 have hS0:S≠0:=fun e=>hu (sq_sum (by rw [hS]; exact e))
 have hT0:T≠0:=fun e=>hv (sq_sum (by rw [hT]; exact e))
 have c1:T*(S-Q)=0:=by grind
 have c2:S*(Q-T)=0:=by grind
 have d1:S-Q=0:=(Rat.mul_eq_zero.1 c1).resolve_left hT0
 have d2:Q-T=0:=(Rat.mul_eq_zero.1 c2).resolve_left hS0
 exact hd (sq_sum (by grind))
theorem lit1:(Rat.divInt 1 1:Rat)=1:=of_decide_eq_true (by kernel_rfl:decide ((Rat.divInt 1 1:Rat)=1)=true)
theorem litN:(Rat.divInt (-1) 1:Rat) = -1:=of_decide_eq_true (by kernel_rfl:decide ((Rat.divInt (-1) 1:Rat) = -1)=true)
theorem litH0:(Rat.divInt (-1) 2:Rat)≠0:=of_decide_eq_true (by kernel_rfl:decide ((Rat.divInt (-1) 2:Rat)≠0)=true)
abbrev hlf:Rat:=Rat.divInt (-1) 2
def detR (f g h:Nat→Rat) (i j k:Nat):Rat:=f i*(g j*h k-g k*h j)-f j*(g i*h k-g k*h i)+f k*(g i*h j-g j*h i)
theorem det_eq (f g h:Nat→Rat) (i j k:Nat):detE f g h i j k=detR f g h i j k:=by
 unfold detE detR trm
 rw [lit1,litN]
 grind
def thrQ (p q r:Pt):RQ:=⟨detE (roQ p) (roQ q) (roQ r) 1 2 3,⟨detE (roQ p) (roQ q) (roQ r) 0 2 3*hlf,detE (roQ p) (roQ q) (roQ r) 0 1 3*hlf⟩,-(detE (roQ p) (roQ q) (roQ r) 0 1 2)⟩
theorem thr_dets {p q r:Pt} (h1:p≠q) (h2:q≠r) (h3:p≠r):¬ (detE (roQ p) (roQ q) (roQ r) 1 2 3=0∧detE (roQ p) (roQ q) (roQ r) 0 2 3=0∧detE (roQ p) (roQ q) (roQ r) 0 1 3=0):=by
 rw [det_eq,det_eq,det_eq]
 unfold detR
 have ne:∀ {z w:GQ},Pt.fin z≠Pt.fin w→¬ (z.re=w.re∧z.im=w.im):=fun h e=>h (congrArg Pt.fin (GQ.ext2 e.1 e.2))
 rintro ⟨k1,k2,k3⟩
 cases p with
 | inf=>cases q with
  | inf=>exact h1 rfl
  | fin w=>cases r with
   | inf=>exact h3 rfl
   | fin t =>
    simp only [roQ,lit1,zero_div] at k1 k2 k3
    exact ne h2 ⟨by grind,by grind⟩
 | fin z=>cases q with
  | inf=>cases r with
   | inf=>exact h2 rfl
   | fin t =>
    simp only [roQ,lit1,zero_div] at k1 k2 k3
    exact ne h3 ⟨by grind,by grind⟩
  | fin w=>cases r with
   | inf =>
    simp only [roQ,lit1,zero_div] at k1 k2 k3
    exact ne h1 ⟨by grind,by grind⟩
   | fin t =>
    simp only [roQ,lit1,gnorm] at k1 k2 k3
    refine tri_no (a:=z.re) (b:=z.im) (u1:=w.re-z.re) (u2:=w.im-z.im) (v1:=t.re-z.re) (v2:=t.im-z.im) (fun e=>ne h1 ⟨by grind,by grind⟩) (fun e=>ne h3 ⟨by grind,by grind⟩) (fun e=>ne h2 ⟨by grind,by grind⟩) ?_ ?_ ?_
    · grind
    · grind
    · grind
theorem thr_ne {p q r:Pt} (h1:p≠q) (h2:q≠r) (h3:p≠r):rby (thrQ p q r)≠0:=by
 intro e
 have h:=thr_dets h1 h2 h3
 unfold rby rbyQ thrQ at e
 dsimp only at e
 have hh:∀ x:Rat,x*hlf=0→x=0:=fun x e=>(Rat.mul_eq_zero.1 e).resolve_right litH0
 cases k1:decide (detE (roQ p) (roQ q) (roQ r) 1 2 3=0) with
 | false=>rw [k1] at e; exact of_decide_eq_false k1 e
 | true=>cases k2:decide (detE (roQ p) (roQ q) (roQ r) 0 2 3*hlf=0) with
  | false=>rw [k1,k2] at e; exact of_decide_eq_false k2 e
  | true =>
   rw [k1,k2] at e
   exact h ⟨of_decide_eq_true k1,hh _ (of_decide_eq_true k2),hh _ e⟩
section
variable {p q r:Pt} (hp:FitP p) (hq:FitP q) (hr:FitP r)
theorem hlf_sz:Sz 8 hlf:=sz_lit (-1) 2 (by decide) (by decide) (by decide)
include hp hq hr in
theorem dt_sz (i j k:Nat):Sz 100000 (detE (roQ p) (roQ q) (roQ r) i j k):=(det_szs (ro_sz hp) (ro_sz hq) (ro_sz hr) i j k).2.2.2.2.2
include hp hq hr in
theorem thr_sz:RSz 300000 (thrQ p q r) :=
 ⟨(dt_sz hp hq hr 1 2 3).mono (by decide),⟨((dt_sz hp hq hr 0 2 3).mul hlf_sz).mono (by decide),((dt_sz hp hq hr 0 1 3).mul hlf_sz).mono (by decide)⟩,(dt_sz hp hq hr 0 1 2).neg.mono (by decide)⟩
noncomputable def sEThrough (h0:rby (thrQ p q r)≠0):Spec Tryz.prog :=
 Spec.auto Tryz.call317 [pV 0 p,pV 2 q,pV 4 r] (pM p++pM q++pM r) (rgV 6) (rgT (rone (thrQ p q r)))
  [(sRow hp).e,(sRow hq).e,(sRow hr).e,nNew (-1) 2 (by decide) (by decide) (by decide),(sDet123 (ro_sz hp) (ro_sz hq) (ro_sz hr)).e,(sDet023 (ro_sz hp) (ro_sz hq) (ro_sz hr)).e,(sMulR ((dt_sz hp hq hr 0 2 3).mono (by decide)) (hlf_sz.mono (by decide))).e,
   (sDet013 (ro_sz hp) (ro_sz hq) (ro_sz hr)).e,(sMulR ((dt_sz hp hq hr 0 1 3).mono (by decide)) (hlf_sz.mono (by decide))).e,mkR,(sDet012 (ro_sz hp) (ro_sz hq) (ro_sz hr)).e,fNeg (detE (roQ p) (roQ q) (roQ r) 0 1 2),(sRNormal ((thr_sz hp hq hr).mono (by decide)) rfl rfl h0).e]
  [(1,8)] 3000 Tryz.func317 hmA (by kernel_rfl) (fun β=>by kernel_rfl)
end
def sETwice {x:Rat} (hx:Sz KB x):Spec Tryz.prog :=
 Spec.auto Tryz.call325 [rV 0] [ratT x] (rV 1) [ratT (x+x)] [mkR,fAdd hx hx] [] 400 Tryz.func325 hmA (by kernel_rfl) (fun β=>by kernel_rfl)
abbrev KS3:Nat:=10000000
noncomputable def sSum3 {x y z:Rat} (hx:Sz KS3 x) (hy:Sz KS3 y) (hz:Sz KS3 z):OSpec Tryz.prog :=
 OSpec.auto Tryz.call324 [.one (.c (.b (.s 3 0 3 3)))] [(ratT x).ob,(ratT y).ob,(ratT z).ob,.box [.b (.z 0 0),.b (.z 1 0),.b (.z 2 0)] 149] (rV 4) [0+x+y+z]
  [sum0 (hx.mono (by decide)),sumN ((sz_zero.add hx).mono (by decide)) (hy.mono (by decide)),sumN (((sz_zero.add hx).add hy).mono (by decide)) (hz.mono (by decide))] [] 800 Tryz.func324 hmA (by kernel_rfl) (fun β=>by kernel_rfl)
def valQ (r:RQ) (z:GQ):Rat:=0+r.a*gnorm z+((gmul r.b z).re+(gmul r.b z).re)+r.c
noncomputable def sValue {r:RQ} {z:GQ} (h:RSz KC r) (hz:GSz KC z):Spec Tryz.prog :=
 Spec.auto Tryz.call240 [rgV 0,nV 4] (rgT r++gM z) (rV 6) [ratT (valQ r z)]
  [(sMul (h.b.mono (by decide)) (hz.mono (by decide))).e,(sParts (gmul r.b z)).e,(sNorm (hz.mono (by decide))).e,(sMulR (h.a.mono (by decide)) (hz.norm.mono (by decide))).e,(sETwice ((h.b.mul hz).1.mono (by decide))).e,
   (sSum3 ((h.a.mul hz.norm).mono (by decide)) (((h.b.mul hz).1.add (h.b.mul hz).1).mono (by decide)) (h.c.mono (by decide))).e] [(2,12)] 800 Tryz.func240 hmA (by kernel_rfl) (fun β=>by kernel_rfl)
def sidQ (r:RQ):Pt→Rat
 | .inf=>r.a
 | .fin z=>valQ r z
noncomputable def sESide {r:RQ} {p:Pt} (h:RSz KC r) (hp:FitP p):Spec Tryz.prog :=
 ⟨244,Tryz.call244,[rgV 0,pV 4 p],rgT r++pM p,.one (nI' (sidQ r p).num.sign),[],fun β w hh=>by
  cases p with
  | inf=>exact spec_auto (args:=[rgV 0,pV 4 .inf]) (obs:=rgT r++pM .inf) (evs:=[nSign (x:=r.a) rfl]) (Ns:=[]) (m:=400) Tryz.func244 hmA (fun β=>by kernel_rfl) (by kernel_rfl) β w hh
  | fin z=>exact spec_auto (args:=[rgV 0,pV 4 (.fin z)]) (obs:=rgT r++pM (.fin z)) (evs:=[(sValue h (fitG_sz hp |>.mono (by decide))).e,nSign (x:=valQ r z) rfl]) (Ns:=[]) (m:=400) Tryz.func244 hmA (fun β=>by kernel_rfl) (by kernel_rfl) β w hh,by cases p<;>kernel_rfl⟩
theorem cmp_self (x:Rat):cmpQ x x=0:=by
 have h:(!(cmpQ x x==0))=false∨(!(cmpQ x x==0))=true:=by cases (!(cmpQ x x==0))<;>simp
 unfold cmpQ
 simp
theorem gsub_self (z:GQ):gzero (gsub z z)=true:=by
 rw [gz_true]
 refine GQ.ext2 ?_ ?_<;>(simp only [gsub,g0]; grind)
noncomputable def sRSame {r:RQ} (h:RSz KC r):Spec Tryz.prog :=
 Spec.auto Tryz.call322 [rgV 0,rgV 4] (rgT r++rgT r) (tB' true) [] [nCmp (h.a.mono (by decide)) (h.a.mono (by decide)) (cmp_self r.a),(sSame (h.b.mono (by decide)) (h.b.mono (by decide)) (gsub_self r.b)).e,nCmp (h.c.mono (by decide)) (h.c.mono (by decide)) (cmp_self r.c)] [] 400 Tryz.func322 hmA (by kernel_rfl) (fun β=>by kernel_rfl)
structure MayC (r:RQ):Prop where
 fit:FitC r
 pow:decide ((rpow r).num.sign≤0)=false
 one:rone r=r
theorem MayC.sz {r:RQ} (h:MayC r):RSz KC r:=mk_sz h.fit.1 h.fit.2.1 h.fit.2.2
def Spec.newsTo {P:Program} (S:Spec P) (l:List Thing) (h:S.news=l):Spec P :=
 ⟨S.f,S.en,S.args,S.obs,S.res,l,fun β w hh=>by rw [← h]; exact S.ok β w hh,by rw [← h]; exact S.closed⟩
noncomputable def sRNorm1 {r:RQ} (h:MayC r):Spec Tryz.prog :=
 (sRNormal h.sz rfl rfl (rby_ne h.pow)).newsTo (rgT r) (by show rgT (rone r)=rgT r; rw [h.one])
noncomputable def sWheel {r:RQ} (h:MayC r):Spec Tryz.prog :=
 Spec.auto Tryz.call236 [.one (.a (cC r))] [] (.tup [.a [.b (.z 0 0),.b (.z 1 0),.b (.z 2 0),.b (.z 3 0)],.c (.b (.v (.bool true)))]) (rgT r)
  [(ofG h.fit.2.1).e,(sRatIn h.fit.1).e,(sRatIn h.fit.2.2).e,dEq r.a,dEq r.c,(sPower h.sz).e,nSign (x:=rpow r) rfl,.eqv 37 (.bool (decide ((rpow r).num.sign≤0))) (.bool false) (sgn_le h.pow),(sRNorm1 h).e,(sRSame h.sz).e] [(2,9),(5,5)] 1200 Tryz.func236 hmA (by kernel_rfl) (fun β=>by kernel_rfl)
noncomputable def sCCheck {r:RQ} (h:MayC r):Spec Tryz.prog :=
 Spec.auto Tryz.call105 [.one (.a (cC r))] [] (.one (nI' 0)) [] [(sWheel h).e] [] 400 Tryz.func105 hmA (by kernel_rfl) (fun β=>by kernel_rfl)
theorem sgn_lt {n:Int} {t:Bool} (h:decide (n<0)=t):Value.bool (decide (n<0))=.bool t:=by rw [h]
noncomputable def sdE {r:RQ} {p:Pt} (h:MayC r) (hp:FitP p):List (Ev Tryz.prog):=[(sWheel h).e,(sSpotP p hp).e,(sESide h.sz hp).e]
noncomputable def sCSideN {r:RQ} {p:Pt} (h:MayC r) (hp:FitP p) (hs:decide ((sidQ r p).num.sign<0)=true):Spec Tryz.prog :=
 Spec.auto Tryz.call106 [.one (.a (cC r)),svP p] [] (.tup [nI' (-1),nI' 0]) [] (sdE h hp++[.eqv 32 (.bool (decide ((sidQ r p).num.sign<0))) (.bool true) (sgn_lt hs)]) [] 400 Tryz.func106 hmA (by kernel_rfl) (fun β=>by kernel_rfl)
theorem den_three (β:Env) (n:Nat) (b:Bool) (p q:Pl):(SV.one (.a [.b (.v (.bool b)),.b (.z n 0),.b (.z (n+1) 0)])).den (extE β n [p,q])=.agg #[.bool b,.pointer (p.v 0),.pointer (q.v 0)]:=by
 have h1:=extE_in (β:=β) (n:=n) (i:=0) (xs:=[p,q]) rfl
 have h2:=extE_in (β:=β) (n:=n) (i:=1) (xs:=[p,q]) rfl
 rw [Nat.add_zero] at h1
 simp [SV.den,SC.den,Lf.den,Lf0.den,h1,h2]
def rdPlace (d t:Nat) (e:TypeId) (cs:List Cd) (o:Nat) (b:Bool) (x y:Rat) (hb:cs[o]?=some (.v (.bool b))) (hx:cs[o+1]?=some (.r x)) (hy:cs[o+2]?=some (.r y)) (k n:Nat):Ev Tryz.prog :=
 .rd d (.load 170 (.tmp t)) (fun β=>[.pointer (some ⟨(β k).b,o,none⟩)]) [(k,(rowT e cs).ob)] n (.one (.a [.b (.v (.bool b)),.b (.z n 0),.b (.z (n+1) 0)])) [ratM x,ratM y] (fun β w h ρ op ho hx'=>by
  have h1:RW e cs w (β k):=h (k,(rowT e cs).ob) (by simp)
  have h2:ρ (.tmp t)=.pointer (some ⟨(β k).b,o,none⟩):=by simpa [Op.operands] using hx'
  have p1:=cdOk_at h1.2.1.1 hx
  have p2:=cdOk_at h1.2.1.1 hy
  rw [Nat.zero_add] at p1 p2
  refine ⟨[cellPl (β k) (o+1),cellPl (β k) (o+2)],w,fun g hg c hc=>.inr ⟨(k,(rowT e cs).ob),by simp,rfl,?_⟩,?_,⟨cellPl_or p1,cellPl_or p2,trivial⟩,Below.refl _ _⟩
  · rcases List.mem_cons.1 hg with rfl | hg
    · exact cellPl_F p1 hc
    · obtain rfl:=List.mem_singleton.1 hg
      exact cellPl_F p2 hc
  · have hr:w.rangeAt (β k).b o [.bool b,.pointer ((β k).v (o+1)),.pointer ((β k).v (o+2))]:=fun j v hv=>by
     match j,hv with
     | 0,hv=>simp only [List.getElem?_cons_zero] at hv; obtain rfl:=Option.some.inj hv; exact rw_cell h1 hb
     | 1,hv=>simp only [List.getElem?_cons_succ,List.getElem?_cons_zero] at hv; obtain rfl:=Option.some.inj hv; exact rw_cell h1 hx
     | 2,hv=>simp only [List.getElem?_cons_succ,List.getElem?_cons_zero] at hv; obtain rfl:=Option.some.inj hv; exact rw_cell h1 hy
     | j+3,hv=>simp at hv
    have hl:=run_loadAt_mid (P:=Tryz.prog) w (β k).b o 170 _ _ hr Tryz.underlying170 (by kernel_rfl) (by kernel_rfl)
    rw [den_three]
    unfold execOp
    rw [ho]
    simp only [h2]
    simp [hl,Result.andThen]
    exact ⟨rfl,rfl⟩)
def dPlace (e:TypeId) (cs:List Cd):Ev Tryz.prog:=.dyn (fun o xs ob=>match o.op with
 | .load T (.tmp _)=>Nat.beq T 170&&isAd (xs.getD 0 undefS)&&(match ob[(adOf (xs.getD 0 undefS)).1]? with | some (.th _)=>true | _=>false)
 | _=>false) fun o xs ob=>match o.op with
 | .load _ (.tmp t)=>lit (adOf (xs.getD 0 undefS)).1 fun k=>lit (adOf (xs.getD 0 undefS)).2 fun off=>lit ob.length fun n=>match hb:cs[off]?,hx:cs[off+1]?,hy:cs[off+2]? with
  | some (.v (.bool b)),some (.r x),some (.r y)=>rdPlace (o.dst.getD 0) t e cs off b x y hb hx hy k n
  | _,_,_=>.eqv 0 undef undef rfl
 | _=>.eqv 0 undef undef rfl
def rdIdxP (d t:Nat) (e:TypeId) (cs:List Cd) (ix:Operand) (n j:Nat) (hj:Nat.blt j n=true) (k:Nat):Ev Tryz.prog :=
 .rd d (.indexAddr 257 (.tmp t) ix) (fun β=>[.slice ((β k).v cs.length) n ((β k).c cs.length),.int .i64 (j:Int)]) [(k,(rowT e cs).ob)] 0 (.one (.c (.b (.p k (j*3))))) [] (fun β w h ρ op ho hx'=>by
  have h1:RW e cs w (β k):=h (k,(rowT e cs).ob) (by simp)
  have h2:ρ (.tmp t)=.slice (some ⟨(β k).b,0,none⟩) n ((β k).c cs.length)∧ρ ix=.int .i64 (j:Int):=by
   rw [h1.2.1.2] at hx'
   simpa [Op.operands] using hx'
  rw [Nat.blt_eq] at hj
  refine ⟨[],w,(fun _ h=>by cases h),?_,trivial,Below.refl _ _⟩
  rw [extE_nil]
  unfold execOp
  rw [ho]
  simp only [h2.1,h2.2]
  have hi:=run_indexAt_slice (P:=Tryz.prog) w 257 ⟨(β k).b,0,none⟩ n ((β k).c cs.length) .i64 (j:Int) (by kernel_rfl)
  have hsz:(sizeOf (Tryz.prog.elem 257)).run Tryz.prog w=.ok 3 w:=by kernel_rfl
  rw [if_pos ⟨by omega,by omega⟩,hsz,Result.andThen_ok,Int.toNat_natCast] at hi
  have ha:(⟨(β k).b,0,none⟩:Addr).add (j*3)=⟨(β k).b,j*3,none⟩:=by
   simp [Addr.add]
   exact fun h=>h.symm
  rw [ha] at hi
  simp only [Sem.run_bind,hi,Result.andThen_ok]
  rfl)
def dIdxP (e:TypeId) (cs:List Cd):Ev Tryz.prog:=.dyn (fun o xs ob=>match o.op with
 | .indexAddr _ (.tmp _) _=>isY (xs.getD 0 undefS)
 | _=>false) fun o xs ob=>match o.op with
 | .indexAddr _ (.tmp t) ix=>lit (yOf (xs.getD 0 undefS)).1 fun k=>lit (yOf (xs.getD 0 undefS)).2 fun n=>lit (intS (xs.getD 1 undefS)) fun j=>if h:Nat.blt j n=true then rdIdxP (o.dst.getD 0) t e cs ix n j h k else .eqv 0 undef undef rfl
 | _=>.eqv 0 undef undef rfl
theorem place_some:(Tryz.prog.info? 170).isSome=true:=by kernel_rfl
noncomputable def appP:AppT Tryz.prog :=
 ⟨257,170,(Tryz.prog.info? 170).get place_some,.agg #[.bool false,.pointer none,.pointer none],3,24,Tryz.underlying257,(Option.some_get place_some).symm,by kernel_rfl,by kernel_rfl,by kernel_rfl,rfl,by decide,by decide⟩
def plCd (p:Pt):List Cd:=[.v (.bool (pI p)),.r (pG p).re,.r (pG p).im]
abbrev pl3 (p q r:Pt):List Cd:=plCd p++plCd q++plCd r
abbrev sp3A:List SV:=[.one (.c (.b (.s 0 0 3 3)))]
def sp3L (p q r:Rw):List Lf:=lsX p.C++lsX q.C++lsX r.C
abbrev PLT:TypeId:=170
def sp3O (p q r:Pt):List (Nat × Ob) :=
 [(18,.row [.b (.v (.bool (pI p))),.b (.z 2 0),.b (.z 3 0),.b (.v (.bool (pI q))),.b (.z 8 0),.b (.z 9 0),.b (.v (.bool (pI r))),.b (.z 14 0),.b (.z 15 0)] PLT 3 3),
  (2,(ratM (pG p).re).ob),(3,(ratM (pG p).im).ob),(8,(ratM (pG q).re).ob),(9,(ratM (pG q).im).ob),(14,(ratM (pG r).re).ob),(15,(ratM (pG r).im).ob)]
noncomputable def sp3E {p q r:Pt} (hp:FitP p) (hq:FitP q) (hr:FitP r):List (Ev Tryz.prog):=[(sSpotP p hp).e,.app appP,(sSpotP q hq).e,.app appP,(sSpotP r hr).e,.app appP]
theorem sp3_eqs {p q r:Pt} (hp:FitP p) (hq:FitP q) (hr:FitP r) (β:Env) :
  (allS Tryz.prog Tryz.f241 sp3A [.box (sp3L p.w q.w r.w) 39] (sp3E hp hq hr) [] 800 (.tup [.c (.b (.r 18 3)),.c (.b (.v (.bool true)))]) (sp3O p q r) β).map Prod.fst =
  (allS Tryz.prog Tryz.f241 sp3A [.box (sp3L p.w q.w r.w) 39] (sp3E hp hq hr) [] 800 (.tup [.c (.b (.r 18 3)),.c (.b (.v (.bool true)))]) (sp3O p q r) β).map Prod.snd:=by kernel_rfl
theorem pt_no_rat {w:World} {b:Nat} {c0:Value} {b1:Bool} {l:List Value} {t:TypeId} {x:Rat} (h:w.heap[b]?=some (.cells (c0::.bool b1::l).toArray t (0,0))) (k:RatAt w b 0 x):False:=by
 obtain ⟨A,m,cap,_,h1,_⟩:=k.2.1.open_
 have h2:=cell_lay (o:=1) h rfl
 rw [Nat.zero_add,h2] at h1
 cases h1
theorem or_cd {w:World} {g G:Pl} {x:Rat} {i:Nat} (h:OR0 x w g) (hv:G.v i=g.v 0) (hF:∀ c,g.F c→G.F c):cdP w G i (.r x):=by
 rcases h with ⟨h1,_,h3⟩ | ⟨b,h1,h2⟩
 · exact .inl ⟨hv.trans h1,h3⟩
 · exact .inr ⟨b,hv.trans h1.1,hF b ((h1.2 b).2 rfl),h2⟩
theorem spots3_ok {p q r:Pt} (hp:FitP p) (hq:FitP q) (hr:FitP r) (β:Env) (w:World) (hh:(Ob.box (sp3L p.w q.w r.w) 39).holds β w (β 0)) :
  Calls Tryz.prog 241 (sp3A.map (SV.den β)).toArray w fun e u=>∃ xs:List Pl,(∀ x∈xs,∀ c,x.F c→w.heap.size≤c)∧e=.returned ((SV.tup [.c (.b (.y 1 9 3)),.c (.b (.v (.bool true)))]).den (extE β 1 xs))∧newHold u [rowT PLT (pl3 p q r)] xs∧Below w.heap.size w u:=by
 refine (sx (P:=Tryz.prog) sp3A [.box (sp3L p.w q.w r.w) 39] (sp3E hp hq hr) [] 800 (.tup [.c (.b (.r 18 3)),.c (.b (.v (.bool true)))]) (sp3O p q r) Tryz.func241 hmA (fun β=>ok_of_maps (sp3_eqs hp hq hr β)) (by kernel_rfl) (by kernel_rfl) β w (fun k o ho=>?_)).mono ?_
 · cases k with
   | zero=>simp only [List.getElem?_cons_zero] at ho; obtain rfl:=Option.some.inj ho; exact hh
   | succ k=>simp at ho
 · rintro e u ⟨β',q',obj,e1,rfl,e2,e4,e5,g⟩
   have hnew:∀ y∈sp3O p q r,∀ c,(β' y.1).F c→c≠(β 0).b→w.heap.size≤c:=fun y hy c hc hne=>by
    rcases e4 y hy c hc with h | ⟨i,hi,h⟩
    · exact h
    · obtain rfl:i=0:=by simp only [List.length_singleton] at hi; omega
      exact absurd ((hh.1.1 c).1 h) hne
   have hu:u.heap[(β 0).b]?=some (.cells ((sp3L p.w q.w r.w).map (Lf.den β)).toArray 39 (0,0)):=by rw [g.bel.block _ (heap_lt hh.2)]; exact hh.2
   have hrat:∀ (k:Nat) (x:Rat),(k,(ratM x).ob)∈sp3O p q r→OR0 x u (β' k)∧∀ c,(β' k).F c→w.heap.size≤c:=fun k x hk=>by
    have h:OR0 x u (β' k):=e5 _ hk
    refine ⟨h,fun c hc=>?_⟩
    rcases h with ⟨_,h2,_⟩ | ⟨b,hb,hx⟩
    · exact absurd hc (h2 c)
    · have ec:=(hb.2 c).1 hc
      subst ec
      refine hnew _ hk c hc fun e=>?_
      rw [e] at hx
      exact pt_no_rat hu hx
   obtain ⟨o2,n2⟩:=hrat 2 (pG p).re (by simp [sp3O])
   obtain ⟨o3,n3⟩:=hrat 3 (pG p).im (by simp [sp3O])
   obtain ⟨o8,n8⟩:=hrat 8 (pG q).re (by simp [sp3O])
   obtain ⟨o9,n9⟩:=hrat 9 (pG q).im (by simp [sp3O])
   obtain ⟨o14,n14⟩:=hrat 14 (pG r).re (by simp [sp3O])
   obtain ⟨o15,n15⟩:=hrat 15 (pG r).im (by simp [sp3O])
   obtain ⟨hone,cur,hcur,hcl,hn,hcm,hsz,htake⟩:=e5 (18,.row [.b (.v (.bool (pI p))),.b (.z 2 0),.b (.z 3 0),.b (.v (.bool (pI q))),.b (.z 8 0),.b (.z 9 0),.b (.v (.bool (pI r))),.b (.z 14 0),.b (.z 15 0)] PLT 3 3) (by simp [sp3O])
   have hb18:w.heap.size≤(β' 18).b:=hnew _ (by simp [sp3O]) _ ((hone.1 _).2 rfl) fun e=>by
    rw [e,hu] at hcur
    have:=(Obj.cells.inj (Option.some.inj hcur)).2.1
    exact absurd this (by decide)
   refine ⟨[⟨(β' 18).b,fun i=>match i with | 1=>(β' 2).v 0 | 2=>(β' 3).v 0 | 4=>(β' 8).v 0 | 5=>(β' 9).v 0 | 7=>(β' 14).v 0 | 8=>(β' 15).v 0 | 9=>some ⟨(β' 18).b,0,none⟩ | _=>none,fun _=>(β' 18).c 0,
    fun c=>c=(β' 18).b∨(β' 2).F c∨(β' 3).F c∨(β' 8).F c∨(β' 9).F c∨(β' 14).F c∨(β' 15).F c,fun _=>undef⟩],fun x hx c hc=>?_,rfl,⟨⟨⟨.inl rfl,cur,hcur,?_⟩,⟨⟨trivial,or_cd o2 rfl fun c hc=>.inr (.inl hc),or_cd o3 rfl fun c hc=>.inr (.inr (.inl hc)),trivial,or_cd o8 rfl fun c hc=>.inr (.inr (.inr (.inl hc))),or_cd o9 rfl fun c hc=>.inr (.inr (.inr (.inr (.inl hc)))),trivial,or_cd o14 rfl fun c hc=>.inr (.inr (.inr (.inr (.inr (.inl hc))))),or_cd o15 rfl fun c hc=>.inr (.inr (.inr (.inr (.inr (.inr hc))))),trivial⟩,rfl⟩,fun c hc=>?_⟩,trivial⟩,g.bel⟩
   · obtain rfl:=List.mem_singleton.1 hx
     rcases hc with rfl | hc | hc | hc | hc | hc | hc
     · exact hb18
     · exact n2 c hc
     · exact n3 c hc
     · exact n8 c hc
     · exact n9 c hc
     · exact n14 c hc
     · exact n15 c hc
   · have:(pl3 p q r).length=3*3:=rfl
     rw [this,htake]
     rfl
   · rcases hc with rfl | hc | hc | hc | hc | hc | hc
     · exact heap_lt hcur
     · exact (or_stable _).lt u _ o2 c hc
     · exact (or_stable _).lt u _ o3 c hc
     · exact (or_stable _).lt u _ o8 c hc
     · exact (or_stable _).lt u _ o9 c hc
     · exact (or_stable _).lt u _ o14 c hc
     · exact (or_stable _).lt u _ o15 c hc
noncomputable def sSpots3 {p q r:Pt} (hp:FitP p) (hq:FitP q) (hr:FitP r):CSpec Tryz.prog :=
 ⟨241,Tryz.call241,sp3A,sp3L p.w q.w r.w,39,.tup [.c (.b (.y 1 9 3)),.c (.b (.v (.bool true)))],[rowT PLT (pl3 p q r)],spots3_ok hp hq hr,by kernel_rfl⟩
section
variable {p q r:Pt} (hp:FitP p) (hq:FitP q) (hr:FitP r)
include hp hq hr in
theorem thr1_sz (h0:rby (thrQ p q r)≠0):RSz KC (rone (thrQ p q r)):=(rnm_sz (thr_sz hp hq hr) (rby_sz (thr_sz hp hq hr) _ _) h0).mono (by decide)
theorem thr1_ne (h0:rby (thrQ p q r)≠0):rby (rone (thrQ p q r))≠0:=by
 rw [rby_one h0]
 decide
noncomputable def sRTold2 (h0:rby (thrQ p q r)≠0):Spec Tryz.prog :=
 (sRTold (thr1_sz hp hq hr h0) rfl rfl (thr1_ne h0)).conv (ciA (rone (thrQ p q r))) (congrArg ciA (rone_rone h0))
abbrev idP (p q r:Pt):List (Ev Tryz.prog):=[dIdxP PLT (pl3 p q r),dPlace PLT (pl3 p q r)]
noncomputable def sCiThrough (h1:ptB p q=false) (h2:ptB q r=false) (h3:ptB p r=false) (h0:rby (thrQ p q r)≠0):Spec Tryz.prog :=
 Spec.auto Tryz.call232 [svP p,svP q,svP r] [] (ciA (rone (thrQ p q r))) [] ([(sSpots3 hp hq hr).e,eqEvPt h1,eqEvPt h2,eqEvPt h3]++idP p q r++idP p q r++idP p q r++[(sEThrough hp hq hr h0).e,(sRTold2 hp hq hr h0).e])
  [(6,13)] 1200 Tryz.func232 hmA (by kernel_rfl) (fun β=>by kernel_rfl)
end
end Go.Proofs.YtdiemgedlfnlmaaGreat.Y
end
section
namespace Go.Proofs.YtdiemgedlfnlmaaGreat
open Go Go.Shelf Go.RowKit
open Go.Proofs.YtdiemgedlfnlmaaGreat.Y
set_option maxRecDepth 100000
def joinRen:Go.Shelf.Ren:=⟨fun | 156=>320 | 165=>367 | 166=>368 | 169=>369 | 240=>385 | 241=>386 | 276=>391 | 277=>392 | n=>n,fun | 31=>337 | 9=>9 | 3=>3 | 4=>4 | 0=>0 | 20=>20 | 72=>372 | 76=>376 | 70=>370 | 37=>245 | 75=>375 | 127=>390 | 164=>392 | 5=>5 | 80=>349 | n=>n,fun | n=>n⟩
theorem joinLays:Go.Proofs.Lays.n156 Tryz.prog joinRen:={
 mixed:=by kernel_rfl
 f156:=Tryz.func320.trans (congrArg some (by kernel_rfl))
 f165:=Tryz.func367.trans (congrArg some (by kernel_rfl))
 f166:=Tryz.func368.trans (congrArg some (by kernel_rfl))
 f169:=Tryz.func369.trans (congrArg some (by kernel_rfl))
 f240:=Tryz.func385.trans (congrArg some (by kernel_rfl))
 f241:=Tryz.func386.trans (congrArg some (by kernel_rfl))
 f276:=Tryz.func391.trans (congrArg some (by kernel_rfl))
 f277:=Tryz.func392.trans (congrArg some (by kernel_rfl))
 t0:=Tryz.underlying0
 a0:=Tryz.isAgg0
 z0:=Tryz.sizeOf0
 v0:=Tryz.zeroValue0
 t3:=Tryz.underlying3
 a3:=Tryz.isAgg3
 z3:=Tryz.sizeOf3
 v3:=Tryz.zeroValue3
 t4:=Tryz.underlying4
 a4:=Tryz.isAgg4
 z4:=Tryz.sizeOf4
 v4:=Tryz.zeroValue4
 t9:=Tryz.underlying9
 a9:=Tryz.isAgg9
 z9:=Tryz.sizeOf9
 v9:=Tryz.zeroValue9
 t20:=Tryz.underlying20
 a20:=Tryz.isAgg20
 z20:=Tryz.sizeOf20
 v20:=Tryz.zeroValue20
 t31:=Tryz.underlying337
 a31:=Tryz.isAgg337
 z31:=Tryz.sizeOf337
 v31:=Tryz.zeroValue337
 t37:=Tryz.underlying245
 a37:=Tryz.isAgg245
 z37:=Tryz.sizeOf245
 v37:=Tryz.zeroValue245
 t70:=Tryz.underlying370
 a70:=Tryz.isAgg370
 z70:=Tryz.sizeOf370
 v70:=Tryz.zeroValue370
 t72:=Tryz.underlying372
 a72:=Tryz.isAgg372
 z72:=Tryz.sizeOf372
 v72:=Tryz.zeroValue372
 t75:=Tryz.underlying375
 a75:=Tryz.isAgg375
 z75:=Tryz.sizeOf375
 v75:=Tryz.zeroValue375
 t76:=Tryz.underlying376
 a76:=Tryz.isAgg376
 z76:=Tryz.sizeOf376
 v76:=Tryz.zeroValue376
 t127:=Tryz.underlying390
 a127:=Tryz.isAgg390
 z127:=Tryz.sizeOf390
 v127:=Tryz.zeroValue390
 t164:=Tryz.underlying392
 a164:=Tryz.isAgg392
 z164:=Tryz.sizeOf392
 v164:=Tryz.zeroValue392 }
theorem joinExtra:Builder.Extra Tryz.prog joinRen:={
 sizeBuilder:=by kernel_rfl
 liesBuilder:=by kernel_rfl
 t5:=Tryz.underlying5
 a5:=Tryz.isAgg5
 z5:=Tryz.sizeOf5
 v5:=Tryz.zeroValue5
 infoByte:=by kernel_rfl
 cellsByte:=by kernel_rfl
 sizeByte:=by kernel_rfl
 neB5:=by decide }
theorem join_ok (bk o c:Nat) (xs:List ByteArray) (sep:ByteArray) (w:World) (hcells:∀ (j:Nat) x,xs[j]?=some x→w.cell? ⟨bk,o+j,none⟩=some (.string x)) (hbk:bk<w.heap.size) (hN:xs.length≤140737488355328) (hcap:xs.length≤c) (hlen:(Lib.join (xs.map (·.data.toList)) sep.data.toList).length≤140737488355328) :
  Calls Tryz.prog 320 #[.slice (some ⟨bk,o,none⟩) xs.length c,.string sep] w fun e w'=>e=.returned (.string ⟨(Lib.join (xs.map (·.data.toList)) sep.data.toList).toArray⟩)∧Below w.heap.size w w':=Any.strings_Join joinLays joinExtra bk o c xs sep w hcells hbk hN hcap hlen
theorem join3_ok (a b c sep r:ByteArray) (hr:(⟨(Lib.join [a.data.toList,b.data.toList,c.data.toList] sep.data.toList).toArray⟩:ByteArray)=r) (hl:(Lib.join [a.data.toList,b.data.toList,c.data.toList] sep.data.toList).length≤140737488355328) (β:Env) (w:World) (hh:(Ob.box [.b (.v (.string a)),.b (.v (.string b)),.b (.v (.string c))] 9).holds β w (β 0)) :
  Calls Tryz.prog 320 (([.one (.c (.b (.s 0 0 3 3))),.one (.c (.b (.v (.string sep))))]:List SV).map (SV.den β)).toArray w fun e w'=>e=.returned (.string r)∧Below w.heap.size w w':=by
 rw [← hr]
 refine join_ok (β 0).b 0 3 [a,b,c] sep w (fun j x hx=>?_) (heap_lt hh.2) (show 3≤140737488355328 by decide) (Nat.le_refl _) hl
 refine cell_lay hh.2 ?_
 rw [Nat.zero_add]
 match j,hx with
 | 0,hx=>simp only [List.getElem?_cons_zero] at hx; obtain rfl:=Option.some.inj hx; rfl
 | 1,hx=>simp only [List.getElem?_cons_succ,List.getElem?_cons_zero] at hx; obtain rfl:=Option.some.inj hx; rfl
 | 2,hx=>simp only [List.getElem?_cons_succ,List.getElem?_cons_zero] at hx; obtain rfl:=Option.some.inj hx; rfl
 | j+3,hx=>simp at hx
def sJoin3 (a b c sep r:ByteArray) (hr:(⟨(Lib.join [a.data.toList,b.data.toList,c.data.toList] sep.data.toList).toArray⟩:ByteArray)=r) (hl:(Lib.join [a.data.toList,b.data.toList,c.data.toList] sep.data.toList).length≤140737488355328):BSpec Tryz.prog :=
 ⟨320,Tryz.call320,[.one (.c (.b (.s 0 0 3 3))),.one (.c (.b (.v (.string sep))))],[.b (.v (.string a)),.b (.v (.string b)),.b (.v (.string c))],9,.string r,join3_ok a b c sep r hr hl,by kernel_rfl,fun _=>rfl⟩
end Go.Proofs.YtdiemgedlfnlmaaGreat
end
section
namespace Go.Proofs.YtdiemgedlfnlmaaGreat.Y
open Go Go.RowKit
set_option maxRecDepth 100000
abbrev pl2 (p0 p1:Pt):List Cd:=plCd p0++plCd p1
abbrev sp2A:List SV:=[.one (.c (.b (.s 0 0 2 2)))]
def sp2L (p0 p1:Rw):List Lf:=lsX p0.C++lsX p1.C
def sp2O (p0 p1:Pt):List (Nat × Ob):=[(12,.row [.b (.v (.bool (pI p0))),.b (.z 2 0),.b (.z 3 0),.b (.v (.bool (pI p1))),.b (.z 8 0),.b (.z 9 0)] PLT 2 3),(2,(ratM (pG p0).re).ob),(3,(ratM (pG p0).im).ob),(8,(ratM (pG p1).re).ob),(9,(ratM (pG p1).im).ob)]
noncomputable def sp2E {p0 p1:Pt} (hp0:FitP p0) (hp1:FitP p1):List (Ev Tryz.prog):=[(sSpotP p0 hp0).e,.app appP,(sSpotP p1 hp1).e,.app appP]
theorem sp2_eqs {p0 p1:Pt} (hp0:FitP p0) (hp1:FitP p1) (β:Env):(allS Tryz.prog Tryz.f241 sp2A [.box (sp2L p0.w p1.w) 39] (sp2E hp0 hp1) [] 800 (.tup [.c (.b (.r 12 2)),.c (.b (.v (.bool true)))]) (sp2O p0 p1) β).map Prod.fst=(allS Tryz.prog Tryz.f241 sp2A [.box (sp2L p0.w p1.w) 39] (sp2E hp0 hp1) [] 800 (.tup [.c (.b (.r 12 2)),.c (.b (.v (.bool true)))]) (sp2O p0 p1) β).map Prod.snd:=by kernel_rfl
theorem spots2_ok {p0 p1:Pt} (hp0:FitP p0) (hp1:FitP p1) (β:Env) (w:World) (hh:(Ob.box (sp2L p0.w p1.w) 39).holds β w (β 0)) :
  Calls Tryz.prog 241 (sp2A.map (SV.den β)).toArray w fun e u=>∃ xs:List Pl,(∀ x∈xs,∀ c,x.F c→w.heap.size≤c)∧e=.returned ((SV.tup [.c (.b (.y 1 6 2)),.c (.b (.v (.bool true)))]).den (extE β 1 xs))∧newHold u [rowT PLT (pl2 p0 p1)] xs∧Below w.heap.size w u:=by
 refine (sx (P:=Tryz.prog) sp2A [.box (sp2L p0.w p1.w) 39] (sp2E hp0 hp1) [] 800 (.tup [.c (.b (.r 12 2)),.c (.b (.v (.bool true)))]) (sp2O p0 p1) Tryz.func241 hmA (fun β=>ok_of_maps (sp2_eqs hp0 hp1 β)) (by kernel_rfl) (by kernel_rfl) β w (fun k o ho=>?_)).mono ?_
 · cases k with
   | zero=>simp only [List.getElem?_cons_zero] at ho; obtain rfl:=Option.some.inj ho; exact hh
   | succ k=>simp at ho
 · rintro e u ⟨β',q',obj,e1,rfl,e2,e4,e5,g⟩
   have hnew:∀ y∈sp2O p0 p1,∀ c,(β' y.1).F c→c≠(β 0).b→w.heap.size≤c:=fun y hy c hc hne=>by
    rcases e4 y hy c hc with h | ⟨i,hi,h⟩
    · exact h
    · obtain rfl:i=0:=by simp only [List.length_singleton] at hi; omega
      exact absurd ((hh.1.1 c).1 h) hne
   have hu:u.heap[(β 0).b]?=some (.cells ((sp2L p0.w p1.w).map (Lf.den β)).toArray 39 (0,0)):=by rw [g.bel.block _ (heap_lt hh.2)]; exact hh.2
   have hrat:∀ (k:Nat) (x:Rat),(k,(ratM x).ob)∈sp2O p0 p1→OR0 x u (β' k)∧∀ c,(β' k).F c→w.heap.size≤c:=fun k x hk=>by
    have h:OR0 x u (β' k):=e5 _ hk
    refine ⟨h,fun c hc=>?_⟩
    rcases h with ⟨_,h2,_⟩ | ⟨b,hb,hx⟩
    · exact absurd hc (h2 c)
    · have ec:=(hb.2 c).1 hc
      subst ec
      refine hnew _ hk c hc fun e=>?_
      rw [e] at hx
      exact pt_no_rat hu hx
   obtain ⟨o2,n2⟩:=hrat 2 (pG p0).re (by simp [sp2O])
   obtain ⟨o3,n3⟩:=hrat 3 (pG p0).im (by simp [sp2O])
   obtain ⟨o8,n8⟩:=hrat 8 (pG p1).re (by simp [sp2O])
   obtain ⟨o9,n9⟩:=hrat 9 (pG p1).im (by simp [sp2O])
   obtain ⟨hone,cur,hcur,hcl,hn,hcm,hsz,htake⟩:=e5 (12,.row [.b (.v (.bool (pI p0))),.b (.z 2 0),.b (.z 3 0),.b (.v (.bool (pI p1))),.b (.z 8 0),.b (.z 9 0)] PLT 2 3) (by simp [sp2O])
   have hbR:w.heap.size≤(β' 12).b:=hnew _ (by simp [sp2O]) _ ((hone.1 _).2 rfl) fun e=>by
    rw [e,hu] at hcur
    have:=(Obj.cells.inj (Option.some.inj hcur)).2.1
    exact absurd this (by decide)
   refine ⟨[⟨(β' 12).b,fun i=>match i with | 1=>(β' 2).v 0 | 2=>(β' 3).v 0 | 4=>(β' 8).v 0 | 5=>(β' 9).v 0 | 6=>some ⟨(β' 12).b,0,none⟩ | _=>none,fun _=>(β' 12).c 0,fun c=>c=(β' 12).b∨(β' 2).F c∨(β' 3).F c∨(β' 8).F c∨(β' 9).F c,fun _=>undef⟩],fun x hx c hc=>?_,rfl,⟨⟨⟨.inl rfl,cur,hcur,?_⟩,⟨⟨trivial,or_cd o2 rfl fun c hc=>.inr (.inl hc),or_cd o3 rfl fun c hc=>.inr (.inr (.inl hc)),trivial,or_cd o8 rfl fun c hc=>.inr (.inr (.inr (.inl hc))),or_cd o9 rfl fun c hc=>.inr (.inr (.inr (.inr (hc)))),trivial⟩,rfl⟩,fun c hc=>?_⟩,trivial⟩,g.bel⟩
   · obtain rfl:=List.mem_singleton.1 hx
     rcases hc with rfl | hc | hc | hc | hc
     · exact hbR
     · exact n2 c hc
     · exact n3 c hc
     · exact n8 c hc
     · exact n9 c hc
   · have:(pl2 p0 p1).length=2*3:=rfl
     rw [this,htake]
     rfl
   · rcases hc with rfl | hc | hc | hc | hc
     · exact heap_lt hcur
     · exact (or_stable _).lt u _ o2 c hc
     · exact (or_stable _).lt u _ o3 c hc
     · exact (or_stable _).lt u _ o8 c hc
     · exact (or_stable _).lt u _ o9 c hc
noncomputable def sSpots2 {p0 p1:Pt} (hp0:FitP p0) (hp1:FitP p1):CSpec Tryz.prog :=
 ⟨241,Tryz.call241,sp2A,sp2L p0.w p1.w,39,.tup [.c (.b (.y 1 6 2)),.c (.b (.v (.bool true)))],[rowT PLT (pl2 p0 p1)],spots2_ok hp0 hp1,by kernel_rfl⟩
theorem sgn_ne {n:Int} {t:Bool} (h:(!(n==0))=t):Value.bool (!(n==0))=.bool t:=by rw [h]
noncomputable def sOn1 {r:RQ} {p:Pt} (h:RSz KC r) (hp:FitP p) {t:Bool} (ht:(!((sidQ r p).num.sign==0))=t):OSpec Tryz.prog :=
 OSpec.auto Tryz.call243 [pV 0 p,.one (.c (.b (.p 6 0)))] [(ratM (pG p).re).ob,(ratM (pG p).im).ob,(ratT r.a).ob,(ratT r.b.re).ob,(ratT r.b.im).ob,(ratT r.c).ob,.box [.b (.z 2 0),.b (.z 3 0),.b (.z 4 0),.b (.z 5 0)] 250] (tB' t) []
  [(sESide h hp).e,.eqv 7 (.bool (!((sidQ r p).num.sign==0))) (.bool t) (sgn_ne ht)] [] 400 Tryz.func243 hmA (by cases p<;>kernel_rfl) (fun β=>by cases p<;>kernel_rfl)
section
variable {r:RQ} {p q:Pt} (h:RSz KC r) (hp:FitP p) (hq:FitP q) (h1:(!((sidQ r p).num.sign==0))=false) (h2:(!((sidQ r q).num.sign==0))=false)
abbrev onO (r:RQ) (l:List Cd):List Ob:=[(rowT PLT l).ob,(ratT r.a).ob,(ratT r.b.re).ob,(ratT r.b.im).ob,(ratT r.c).ob,.box [.b (.z 1 0),.b (.z 2 0),.b (.z 3 0),.b (.z 4 0)] 250]
abbrev onF:SV:=.one (.c (.f (.func 243) [] [.p 5 0]))
noncomputable def sIdx2:OSpec Tryz.prog :=
 OSpec.auto Tryz.call326 [.one (.c (.b (.y 0 6 2))),onF] (onO r (pl2 p q)) (.one (nI' (-1))) []
  [dIdxP PLT (pl2 p q),dPlace PLT (pl2 p q),(sOn1 h hp h1).e,dIdxP PLT (pl2 p q),dPlace PLT (pl2 p q),(sOn1 h hq h2).e] [] 800 Tryz.func326 hmA (by kernel_rfl) (fun β=>by kernel_rfl)
noncomputable def sHas2:OSpec Tryz.prog :=
 OSpec.auto Tryz.call242 [.one (.c (.b (.y 0 6 2))),onF] (onO r (pl2 p q)) (tB' false) [] [(sIdx2 h hp hq h1 h2).e] [] 400 Tryz.func242 hmA (by kernel_rfl) (fun β=>by kernel_rfl)
end
theorem on2_eqs {r:RQ} {p q:Pt} (h:MayC r) (hp:FitP p) (hq:FitP q) (h1:(!((sidQ r p).num.sign==0))=false) (h2:(!((sidQ r q).num.sign==0))=false) (β:Env) (w:World) (hh:(Ob.box (sp2L p.w q.w) 39).holds β w (β 0)) :
  Calls Tryz.prog 102 (([.one (.a (cC r)),.one (.c (.b (.s 0 0 2 2)))]:List SV).map (SV.den β)).toArray w fun e w'=>e=.returned (.tuple #[.bool true,.int .i64 0])∧Below w.heap.size w w' :=
 bspec_ok [(sWheel h).e,(sSpots2 hp hq).e,(sHas2 h.sz hp hq h1 h2).e] [] 800 Tryz.func102 hmA (fun β=>by kernel_rfl) (by kernel_rfl) (fun β=>rfl) β w hh
def sOn2 {r:RQ} {p q:Pt} (h:MayC r) (hp:FitP p) (hq:FitP q) (h1:(!((sidQ r p).num.sign==0))=false) (h2:(!((sidQ r q).num.sign==0))=false):BSpec Tryz.prog :=
 ⟨102,Tryz.call102,[.one (.a (cC r)),.one (.c (.b (.s 0 0 2 2)))],sp2L p.w q.w,39,.tuple #[.bool true,.int .i64 0],on2_eqs h hp hq h1 h2,by kernel_rfl,fun _=>rfl⟩
abbrev ptI (n m:Int):Pt:=.fin (gint n m)
theorem ptI_fit {n m:Int} (h:n.natAbs<256) (k:m.natAbs<256):FitP (ptI n m):=fit_int h k
theorem ptI_ne {n m n' m':Int} (h:¬ (n=n'∧m=m')):ptI n m≠ptI n' m':=pI_ne h
def uQ:RQ:=⟨Rat.divInt 1 1,gint 0 0,Rat.divInt (-1) 1⟩
theorem rq_lit {r s:RQ} (h1:decide (r.a=s.a)=true) (h2:decide (r.b.re=s.b.re)=true) (h3:decide (r.b.im=s.b.im)=true) (h4:decide (r.c=s.c)=true):r=s:=by
 obtain ⟨a,⟨b,b'⟩,c⟩:=r
 obtain ⟨d,⟨e,e'⟩,f⟩:=s
 obtain rfl:a=d:=of_decide_eq_true h1
 obtain rfl:b=e:=of_decide_eq_true h2
 obtain rfl:b'=e':=of_decide_eq_true h3
 obtain rfl:c=f:=of_decide_eq_true h4
 rfl
theorem u_may:MayC uQ:=⟨⟨sz_lit1 (by decide),fit_int (by decide) (by decide),sz_lit1 (by decide)⟩,by kernel_rfl,rq_lit (by kernel_rfl) (by kernel_rfl) (by kernel_rfl) (by kernel_rfl)⟩
abbrev u1:Pt:=ptI 1 0
abbrev u2:Pt:=ptI 0 1
abbrev u3:Pt:=ptI (-1) 0
theorem u1_fit:FitP u1:=ptI_fit (by decide) (by decide)
theorem u2_fit:FitP u2:=ptI_fit (by decide) (by decide)
theorem u3_fit:FitP u3:=ptI_fit (by decide) (by decide)
theorem u_thr:rone (thrQ u1 u2 u3)=uQ:=rq_lit (by kernel_rfl) (by kernel_rfl) (by kernel_rfl) (by kernel_rfl)
theorem n12:u1≠u2:=ptI_ne (by decide)
theorem n23:u2≠u3:=ptI_ne (by decide)
theorem n13:u1≠u3:=ptI_ne (by decide)
theorem ci_eq {r s:RQ} (e:r=s) (h:FitC s):ciA r=.tup [.a (cC s),nI' 0]:=by
 rw [e,ciA,(ci_fit h).1,(ci_fit h).2]
noncomputable def kThrough:Spec Tryz.prog:=(sCiThrough u1_fit u2_fit u3_fit (ptB_ne' n12) (ptB_ne' n23) (ptB_ne' n13) (thr_ne n12 n23 n13)).conv (.tup [.a (cC uQ),nI' 0]) (ci_eq u_thr u_may.fit)
noncomputable def kSide:Spec Tryz.prog:=sCSideN u_may (p:=ptI 0 0) (ptI_fit (by decide) (by decide)) (by kernel_rfl)
abbrev m1:Rat:=Rat.divInt 2 1
abbrev m3:Rat:=Rat.divInt (-2) 1
theorem m_one:rone ⟨m1,gint 0 0,m3⟩=uQ:=rq_lit (by kernel_rfl) (by kernel_rfl) (by kernel_rfl) (by kernel_rfl)
noncomputable def kMake:Spec Tryz.prog:=(sCMake (a:=m1) (b:=gint 0 0) (c:=m3) (sz_lit1 (by decide)) (fit_int (by decide) (by decide)) (sz_lit1 (by decide)) (by kernel_rfl)).conv (.tup [.a (cC uQ),nI' 0]) (ci_eq m_one u_may.fit)
abbrev tx0:ByteArray:=⟨#[48]⟩
abbrev tx1:ByteArray:=⟨#[49]⟩
abbrev txN:ByteArray:=⟨#[45,49]⟩
abbrev txU:ByteArray:=⟨#[49,32,48,32,45,49]⟩
noncomputable def kGText:Spec Tryz.prog :=
 Spec.auto Tryz.call174 [gS (gint 0 0)] [] (.tup [.c (.b (.v (.string tx0))),nI' 0]) [] [(sGM (gpX (gint 0 0) fit00) (r:=true) rfl).e,(sFText (u:=tx0) fit00.1 (by kernel_rfl)).e,(sFText (u:=tx0) fit00.2 (by kernel_rfl)).e] [] 400 Tryz.func174 hmA (by kernel_rfl) (fun β=>by kernel_rfl)
noncomputable def kText:Spec Tryz.prog :=
 Spec.auto Tryz.call235 [.one (.a (cC uQ))] [] (.tup [.c (.b (.v (.string txU))),nI' 0]) []
  [(sCCheck u_may).e,(sFText (u:=tx1) u_may.fit.1 (by kernel_rfl)).e,kGText.e,(sFText (u:=txN) u_may.fit.2.2 (by kernel_rfl)).e,(sJoin3 tx1 tx0 txN ⟨#[32]⟩ txU (by kernel_rfl) (by decide)).e] [] 400 Tryz.func235 hmA (by kernel_rfl) (fun β=>by kernel_rfl)
def sAt11 (n m:Int) (hn : -9223372036854775808≤n∧n≤9223372036854775807:=by decide) (hm : -9223372036854775808≤m∧m≤9223372036854775807:=by decide):Spec Tryz.prog :=
 Spec.auto Tryz.call233 [.one (svI n),.one (svI m)] [] (svP (ptI n m)) [] [(sR4Int n m hn hm).e] [] 400 Tryz.func233 hmA (by kernel_rfl) (fun β=>by kernel_rfl)
def sUnit:Spec Tryz.prog :=
 Spec.auto Tryz.call114 [] [] (.one (.a (cC uQ))) [] [(sR3Int 1 (by decide)).e,(sR4Int 0 0).e,(sR3Int (-1) (by decide)).e] [] 400 Tryz.func114 hmA (by kernel_rfl) (fun β=>by kernel_rfl)
noncomputable def kOn:BSpec Tryz.prog:=sOn2 u_may (p:=ptI 0 (-1)) (q:=ptI 1 0) (ptI_fit (by decide) (by decide)) (ptI_fit (by decide) (by decide)) (by kernel_rfl) (by kernel_rfl)
def eqU:Ev Tryz.prog:=eqC1 (fR uQ.a) (fR uQ.b.re) (fR uQ.b.im) (fR uQ.c)
noncomputable def sWorks11:Spec Tryz.prog :=
 Spec.auto Tryz.call97 [] [] (tB' true) []
  [(sAt11 1 0).e,(sAt11 0 1).e,(sAt11 (-1) 0).e,kThrough.e,(sAt11 0 0).e,kSide.e,(sR3Int 2 (by decide)).e,(sR4Int 0 0).e,(sR3Int (-2) (by decide)).e,kMake.e,kText.e,(sAt11 0 (-1)).e,(sAt11 1 0).e,kOn.e,
   (sNum11 0).e,sUnit.e,eqU,(sNum11 0).e,(sNum11 0).e,eqU,(sNum11 0).e,(sNum11 0).e] [(2,8),(5,10),(6,45)] 3000 Tryz.func97 hmA (by kernel_rfl) (fun β=>by kernel_rfl)
def fpr (f g:RQ):Rat:=f.b.re*g.b.re+f.b.im*g.b.im-(f.a*g.c+f.c*g.a)/Rat.divInt 2 1
theorem rpow_fpr (f:RQ):fpr f f=rpow f:=by
 have h:(Rat.divInt 2 1:Rat)=2:=of_decide_eq_true (by kernel_rfl:decide ((Rat.divInt 2 1:Rat)=2)=true)
 unfold fpr rpow gnorm
 rw [h]
 grind
def fsq (f g:RQ):Rat:=fpr f g*fpr f g/(fpr f f*fpr g g)
def imX (r:RQ) (v w:GQ):Rat:=(gmul (gmul r.b v) (gconj w)).re
def imF (r:RQ) (v w:GQ):Rat:=0+r.a*gnorm v+(imX r v w+imX r v w)+r.c*gnorm w
def imB (r:RQ) (p q u s:GQ):GQ:=gadd (gadd (gadd (gscale (gmul p (gconj q)) r.a) (gmul (gmul r.b p) (gconj s))) (gmul (gconj (gmul r.b q)) u)) (gscale (gmul u (gconj s)) r.c)
def imQ (r:RQ) (n:MQ) (t:Bool):RQ:=⟨imF r n.a n.c,bif t then gconj (imB r n.a n.b n.c n.d) else imB r n.a n.b n.c n.d,imF r n.b n.d⟩
abbrev KR:Nat:=1100
abbrev KV:Nat:=10000
section
variable {r:RQ} (h:RSz KR r) {v w:GQ} (hv:GSz KV v) (hw:GSz KV w)
include h hv in
theorem bv_sz:GSz 23000 (gmul r.b v):=(h.b.mul hv).mono (by decide)
include h hv hw in
theorem bvw_sz:GSz 70000 (gmul (gmul r.b v) (gconj w)):=((bv_sz h hv).mul hw.conj).mono (by decide)
include hv in
theorem nv_sz:Sz 41000 (gnorm v):=hv.norm.mono (by decide)
include h hv hw in
theorem imF_sz:Sz 250000 (imF r v w):=(((sz_zero.add (h.a.mul (nv_sz hv))).add ((bvw_sz h hv hw).1.add (bvw_sz h hv hw).1)).add (h.c.mul (nv_sz hw))).mono (by decide)
noncomputable def sImAt:OSpec Tryz.prog :=
 OSpec.auto Tryz.call329 [nV 0,nV 2,.one (.c (.b (.p 8 0)))] [(ratT v.re).ob,(ratT v.im).ob,(ratT w.re).ob,(ratT w.im).ob,(ratT r.a).ob,(ratT r.b.re).ob,(ratT r.b.im).ob,(ratT r.c).ob,.box [.b (.z 4 0),.b (.z 5 0),.b (.z 6 0),.b (.z 7 0)] 250] (rV 9) [imF r v w]
  [(sMul (h.b.mono (by decide)) (hv.mono (by decide))).e,(sConj w).e,(sMul ((bv_sz h hv).mono (by decide)) (hw.conj.mono (by decide))).e,(sParts (gmul (gmul r.b v) (gconj w))).e,
   (sNorm (hv.mono (by decide))).e,(sMulR (h.a.mono (by decide)) ((nv_sz hv).mono (by decide))).e,(sETwice ((bvw_sz h hv hw).1.mono (by decide))).e,(sNorm (hw.mono (by decide))).e,(sMulR (h.c.mono (by decide)) ((nv_sz hw).mono (by decide))).e,
   (sSum3 ((h.a.mul (nv_sz hv)).mono (by decide)) (((bvw_sz h hv hw).1.add (bvw_sz h hv hw).1).mono (by decide)) ((h.c.mul (nv_sz hw)).mono (by decide))).e] [(1,13),(2,15)] 800 Tryz.func329 hmA (by kernel_rfl) (fun β=>by kernel_rfl)
end
section
variable {r:RQ} (h:RSz KR r) {n:MQ} (hn:MSz KV n)
include h hn in
theorem imS_sz:(GSz 41000 (gmul n.a (gconj n.b))∧GSz 43000 (gscale (gmul n.a (gconj n.b)) r.a))∧(GSz 41000 (gmul n.c (gconj n.d))∧GSz 43000 (gscale (gmul n.c (gconj n.d)) r.c)):=by
 have e1:GSz 41000 (gmul n.a (gconj n.b)):=(hn.a.mul hn.b.conj).mono (by decide)
 have e2:GSz 41000 (gmul n.c (gconj n.d)):=(hn.c.mul hn.d.conj).mono (by decide)
 exact ⟨⟨e1,(e1.scale h.a).mono (by decide)⟩,e2,(e2.scale h.c).mono (by decide)⟩
include h hn in
theorem imT_sz:GSz 120000 (gadd (gscale (gmul n.a (gconj n.b)) r.a) (gmul (gmul r.b n.a) (gconj n.d)))∧GSz 70000 (gmul (gconj (gmul r.b n.b)) n.c)∧GSz 200000 (gadd (gadd (gscale (gmul n.a (gconj n.b)) r.a) (gmul (gmul r.b n.a) (gconj n.d))) (gmul (gconj (gmul r.b n.b)) n.c)):=by
 have e1:GSz 120000 (gadd (gscale (gmul n.a (gconj n.b)) r.a) (gmul (gmul r.b n.a) (gconj n.d))):=((imS_sz h hn).1.2.add (bvw_sz h hn.a hn.d)).mono (by decide)
 have e2:GSz 70000 (gmul (gconj (gmul r.b n.b)) n.c):=((bv_sz h hn.b).conj.mul hn.c).mono (by decide)
 exact ⟨e1,e2,(e1.add e2).mono (by decide)⟩
include h hn in
theorem imB_sz:GSz 260000 (imB r n.a n.b n.c n.d):=((imT_sz h hn).2.2.add (imS_sz h hn).2.2).mono (by decide)
include h hn in
theorem imQ_sz (t:Bool):RSz 260000 (imQ r n t):=by
 refine ⟨(imF_sz h hn.a hn.c).mono (by decide),?_,(imF_sz h hn.b hn.d).mono (by decide)⟩
 cases t
 · exact imB_sz h hn
 · exact (imB_sz h hn).conj
noncomputable def imE:List (Ev Tryz.prog) :=
 [(sConj n.b).e,(sMul (hn.a.mono (by decide)) (hn.b.conj.mono (by decide))).e,(sScale ((imS_sz h hn).1.1.mono (by decide)) (h.a.mono (by decide))).e,
  (sMul (h.b.mono (by decide)) (hn.a.mono (by decide))).e,(sConj n.d).e,(sMul ((bv_sz h hn.a).mono (by decide)) (hn.d.conj.mono (by decide))).e,(sAdd ((imS_sz h hn).1.2.mono (by decide)) ((bvw_sz h hn.a hn.d).mono (by decide))).e,
  (sMul (h.b.mono (by decide)) (hn.b.mono (by decide))).e,(sConj (gmul r.b n.b)).e,(sMul ((bv_sz h hn.b).conj.mono (by decide)) (hn.c.mono (by decide))).e,(sAdd ((imT_sz h hn).1.mono (by decide)) ((imT_sz h hn).2.1.mono (by decide))).e,
  (sConj n.d).e,(sMul (hn.c.mono (by decide)) (hn.d.conj.mono (by decide))).e,(sScale ((imS_sz h hn).2.1.mono (by decide)) (h.c.mono (by decide))).e,(sAdd ((imT_sz h hn).2.2.mono (by decide)) ((imS_sz h hn).2.2.mono (by decide))).e]
end
abbrev unQ (m:MQ) (b:Bool):MQ:=mnormB (mconj (mundo0 m) m.t) b
abbrev imN:List (Nat × Nat):=[(2,27014026013025012015),(4,32),(7,11)]
section
variable {r:RQ} (h:RSz KR r) {m:MQ} (hm:MSz 1024 m) {b:Bool} (hb:gzero (mconj (mundo0 m) m.t).c=b) (h0:gzero (bif b then (mconj (mundo0 m) m.t).d else (mconj (mundo0 m) m.t).c)=false)
include hm h0 in
theorem un_sz:MSz KV (unQ m b):=by
 have e:=(hm.undo0.conj m.t).normB h0
 exact ⟨e.a.mono (by decide),e.b.mono (by decide),e.c.mono (by decide),e.d.mono (by decide)⟩
include h hm hb h0 in
theorem image_ok (hy:rby (imQ r (unQ m b) m.t)≠0) (β:Env) (w:World) (hh:∀ (k:Nat) (t:Thing),(mT m++rgT r)[k]?=some t→t.D w (β k)) :
  Calls Tryz.prog 249 (([mV 0 m,rgV 8]:List SV).map (SV.den β)).toArray w fun e w'=>∃ xs:List Pl,freshS β w 12 xs∧e=.returned ((rgV 12).den (extE β 12 xs))∧newHold w' (rgT (rone (imQ r (unQ m b) m.t))) xs∧Below w.heap.size w w':=by
 have hn:=un_sz hm h0
 obtain ⟨a,b',c,d,t⟩:=m
 cases t
 · exact spec_auto (obs:=mT ⟨a,b',c,d,false⟩++rgT r) (args:=[mV 0 ⟨a,b',c,d,false⟩,rgV 8]) (evs:=(sUndo (hm.mono (by decide)) hb h0).e::imE h hn++[(sImAt h hn.a hn.c).e,(sImAt h hn.b hn.d).e,(sRNormal ((imQ_sz h hn false).mono (by decide)) rfl rfl hy).e]) (Ns:=imN) (m:=1200) Tryz.func249 hmA (fun β=>by kernel_rfl) (by kernel_rfl) β w hh
 · exact spec_auto (obs:=mT ⟨a,b',c,d,true⟩++rgT r) (args:=[mV 0 ⟨a,b',c,d,true⟩,rgV 8]) (evs:=(sUndo (hm.mono (by decide)) hb h0).e::imE h hn++[(sConj (imB r (unQ ⟨a,b',c,d,true⟩ b).a (unQ ⟨a,b',c,d,true⟩ b).b (unQ ⟨a,b',c,d,true⟩ b).c (unQ ⟨a,b',c,d,true⟩ b).d)).e,(sImAt h hn.a hn.c).e,(sImAt h hn.b hn.d).e,(sRNormal ((imQ_sz h hn true).mono (by decide)) rfl rfl hy).e]) (Ns:=imN) (m:=1200) Tryz.func249 hmA (fun β=>by kernel_rfl) (by kernel_rfl) β w hh
end
end Go.Proofs.YtdiemgedlfnlmaaGreat.Y
end
section
namespace Go.Proofs.YtdiemgedlfnlmaaGreat.Y
open Go Go.RowKit
theorem spec_yes {P:Program} (S:Spec P) (ho:S.obs=[]) (hr:S.res=.one (.c (.b (.v (.bool true))))) (w:World):Calls P S.f (S.args.map (SV.den idE)).toArray w fun e w'=>e=.returned (.bool true)∧Below w.heap.size w w':=by
 refine (S.ok idE w (by rw [ho]; intro k t h; simp at h)).mono ?_
 rintro e w' ⟨xs,_,rfl,_,hb⟩
 exact ⟨by rw [hr]; rfl,hb⟩
end Go.Proofs.YtdiemgedlfnlmaaGreat.Y
end
section
namespace Go.Proofs.YtdiemgedlfnlmaaGreat.Y
open Go Go.RowKit
set_option maxRecDepth 100000
def sR4MayG (a:Gn) {r:Bool} (h:a.B=r):Spec Tryz.prog :=
 (sR4May a.gp.a.a a.gp.b.a).as [gnS a] (tB' r) (by
  show [SV.one (.a (a.gp.a.a.C++a.gp.b.a.C))]=[SV.one (.a (rL a.gp.a.r++rL a.gp.b.r))]
  rw [show a.gp.a.a.C=rL a.gp.a.r from a.gp.a.e,show a.gp.b.a.C=rL a.gp.b.r from a.gp.b.e]) (congrArg tB' (a.gpB.trans h))
def any4:List Thing:=[anyT,anyT,anyT,anyT]
abbrev rx0:SC:=.a [.b (.v (.pointer none)),.b (.v (.pointer none)),.b (.v (.pointer none)),.b (.v (.pointer none))]
abbrev rgC (k:Nat):SC:=.a [.b (.z k 0),.b (.z (k+1) 0),.b (.z (k+2) 0),.b (.z (k+3) 0)]
def WheelNo (l:List Lf):Prop:=∀ (β:Env) (w:World),Calls Tryz.prog 236 (([.one (.a l)]:List SV).map (SV.den β)).toArray w fun e w'=>∃ xs:List Pl,freshS β w 0 xs∧e=.returned ((SV.tup [rgC 0,.c (.b (.v (.bool false)))]).den (extE β 0 xs))∧newHold w' any4 xs∧Below w.heap.size w w'
def sWheelNo {l:List Lf} (h:WheelNo l) (hl:l.all (Lf.of fun _=>false)=true):Spec Tryz.prog :=
 ⟨236,Tryz.call236,[.one (.a l)],[],.tup [rgC 0,.c (.b (.v (.bool false)))],any4,fun β w _=>h β w,by
  have:l.all (Lf.of fun k=>Nat.blt k 0)=true:=List.all_eq_true.2 fun x hx=>Lf.of_mono (fun _ hk=>by cases hk) x (List.all_eq_true.1 hl x hx)
  rw [Bool.and_eq_true]
  exact ⟨by rw [List.all_cons,List.all_nil,Bool.and_true]; exact this,by kernel_rfl⟩⟩
theorem nil4 {P:Program} {f:FuncId} {args:Array Value} {w:World} {β:Env}
  (h:Calls P f args w fun e w'=>∃ xs:List Pl,freshS β w 0 xs∧e=.returned ((SV.tup [rx0,.c (.b (.v (.bool false)))]).den (extE β 0 xs))∧newHold w' [] xs∧Below w.heap.size w w') :
  Calls P f args w fun e w'=>∃ xs:List Pl,freshS β w 0 xs∧e=.returned ((SV.tup [rgC 0,.c (.b (.v (.bool false)))]).den (extE β 0 xs))∧newHold w' any4 xs∧Below w.heap.size w w' :=
 h.mono fun e w' ⟨xs,h1,he,h2,h3⟩=>by
  have hn:AN w' nilPl:=fun _ h=>h.elim
  exact ⟨[nilPl,nilPl,nilPl,nilPl],fun x hx c hc=>by
   simp only [List.mem_cons,List.not_mem_nil,or_false,or_self] at hx
   subst hx
   exact hc.elim,by rw [he]; kernel_rfl,⟨hn,hn,hn,hn,trivial⟩,h3⟩
theorem newHoldR4 {w:World} {t1 t2 t3 t4:Thing} {xs:List Pl} (h:newHold w [t1,t2,t3,t4] xs):newHold w any4 xs:=by
 match xs,h with
 | [a,b,c,d],h=>exact ⟨an_of t1.st h.1,an_of t2.st h.2.1,an_of t3.st h.2.2.1,an_of t4.st h.2.2.2.1,trivial⟩
theorem wheelNum (a:Fn) (b:Gn) (c:Fn) (h:(a.B&&(b.B&&c.B))=false):WheelNo (rL a.r++(rL b.x++rL b.y)++rL c.r):=fun β w=>by
 refine nil4 ?_
 have hh:∀ (k:Nat) (t:Thing),([]:List Thing)[k]?=some t→t.D w (β k):=fun k t h=>by simp at h
 cases b with
 | no g hg=>cases a with
  | ok x hx=>cases c with
   | ok y hy=>exact spec_auto (obs:=[]) (news:=[]) (res:=.tup [rx0,.c (.b (.v (.bool false)))]) (evs:=[(sOfW g.a g.b (r:=false) hg).e,(ratFn (.ok x hx)).e,(ratFn (.ok y hy)).e]) (Ns:=[(2,9),(5,5)]) (m:=800) Tryz.func236 hmA (fun β=>by kernel_rfl) (by kernel_rfl) β w hh
   | no k hk=>exact spec_auto (obs:=[]) (news:=[]) (res:=.tup [rx0,.c (.b (.v (.bool false)))]) (evs:=[(sOfW g.a g.b (r:=false) hg).e,(ratFn (.ok x hx)).e,(ratFn (.no k hk)).e]) (Ns:=[(2,9),(5,5)]) (m:=800) Tryz.func236 hmA (fun β=>by kernel_rfl) (by kernel_rfl) β w hh
  | no f hf=>cases c with
   | ok y hy=>exact spec_auto (obs:=[]) (news:=[]) (res:=.tup [rx0,.c (.b (.v (.bool false)))]) (evs:=[(sOfW g.a g.b (r:=false) hg).e,(ratFn (.no f hf)).e,(ratFn (.ok y hy)).e]) (Ns:=[(2,9),(5,5)]) (m:=800) Tryz.func236 hmA (fun β=>by kernel_rfl) (by kernel_rfl) β w hh
   | no k hk=>exact spec_auto (obs:=[]) (news:=[]) (res:=.tup [rx0,.c (.b (.v (.bool false)))]) (evs:=[(sOfW g.a g.b (r:=false) hg).e,(ratFn (.no f hf)).e,(ratFn (.no k hk)).e]) (Ns:=[(2,9),(5,5)]) (m:=800) Tryz.func236 hmA (fun β=>by kernel_rfl) (by kernel_rfl) β w hh
 | ok z hz=>cases a with
  | no f hf=>cases c with
   | ok y hy=>exact spec_auto (obs:=[]) (news:=[]) (res:=.tup [rx0,.c (.b (.v (.bool false)))]) (evs:=[(ofG hz).e,(sRatFn f hf).e,(ratFn (.ok y hy)).e]) (Ns:=[(2,9),(5,5)]) (m:=800) Tryz.func236 hmA (fun β=>by kernel_rfl) (by kernel_rfl) β w hh
   | no k hk=>exact spec_auto (obs:=[]) (news:=[]) (res:=.tup [rx0,.c (.b (.v (.bool false)))]) (evs:=[(ofG hz).e,(sRatFn f hf).e,(ratFn (.no k hk)).e]) (Ns:=[(2,9),(5,5)]) (m:=800) Tryz.func236 hmA (fun β=>by kernel_rfl) (by kernel_rfl) β w hh
  | ok x hx=>cases c with
   | ok=>cases h
   | no f hf=>exact spec_auto (obs:=[]) (news:=[]) (res:=.tup [rx0,.c (.b (.v (.bool false)))]) (evs:=[(ofG hz).e,(sRatIn hx).e,(sRatFn f hf).e,dEq x]) (Ns:=[(2,9),(5,5)]) (m:=800) Tryz.func236 hmA (fun β=>by kernel_rfl) (by kernel_rfl) β w hh
section
variable {r:RQ} (hf:FitC r)
include hf in
theorem fitC_sz:RSz KC r:=mk_sz hf.1 hf.2.1 hf.2.2
include hf in
theorem wheelPow (hp:decide ((rpow r).num.sign≤0)=true):WheelNo (cC r):=fun β w=>by
 refine nil4 ?_
 exact spec_auto (obs:=[]) (news:=[]) (res:=.tup [rx0,.c (.b (.v (.bool false)))]) (evs:=[(ofG hf.2.1).e,(sRatIn hf.1).e,(sRatIn hf.2.2).e,dEq r.a,dEq r.c,(sPower (fitC_sz hf)).e,nSign (x:=rpow r) rfl,.eqv 37 (.bool (decide ((rpow r).num.sign≤0))) (.bool true) (sgn_le hp)]) (Ns:=[(2,9),(5,5)]) (m:=1200) Tryz.func236 hmA (fun β=>by kernel_rfl) (by kernel_rfl) β w (fun k t h=>by simp at h)
theorem cmpQ_ne {x y:Rat} (h:x≠y):cmpQ x y = -1∨cmpQ x y=1:=by
 unfold cmpQ
 by_cases h1:x<y
 · exact .inl (if_pos h1)
 · by_cases h2:y<x
   · exact .inr (by rw [if_neg h1,if_pos h2])
   · exact absurd (Rat.le_antisymm (Rat.not_lt.1 h2) (Rat.not_lt.1 h1)) h
theorem gsub_ne {z w:GQ} (h:z≠w):gzero (gsub z w)=false:=by
 rw [Bool.eq_false_iff]
 intro e
 rw [gz_true] at e
 apply h
 have h1:=congrArg GQ.re e
 have h2:=congrArg GQ.im e
 simp only [gsub,g0] at h1 h2
 exact GQ.ext2 (by grind) (by grind)
theorem cmpQ_same {x y:Rat} (h:x=y):cmpQ x y=0:=by rw [h]; exact cmp_self y
abbrev smO (r s:RQ):List Thing:=rgT s++rgT r
theorem same_ok {r s:RQ} (h:RSz KC r) (k:RSz KC s) (hne:s≠r) (β:Env) (w:World) (hh:∀ (i:Nat) (t:Thing),(smO r s)[i]?=some t→t.D w (β i)) :
  Calls Tryz.prog 322 (([rgV 0,rgV 4]:List SV).map (SV.den β)).toArray w fun e w'=>∃ xs:List Pl,freshS β w 8 xs∧e=.returned ((tB' false:SV).den (extE β 8 xs))∧newHold w' [] xs∧Below w.heap.size w w':=by
 by_cases h1:s.a=r.a
 · by_cases h2:s.b=r.b
   · have h3:s.c≠r.c:=fun h3=>hne (by cases s; cases r; simp only at h1 h2 h3; subst h1 h2 h3; rfl)
     rcases cmpQ_ne h3 with h3 | h3<;>exact spec_auto (args:=[rgV 0,rgV 4]) (obs:=smO r s) (res:=tB' false) (news:=[]) (evs:=[nCmp (k.a.mono (by decide)) (h.a.mono (by decide)) (cmpQ_same h1),(sSame (k.b.mono (by decide)) (h.b.mono (by decide)) (b:=true) (by rw [h2]; exact gsub_self r.b)).e,nCmp (k.c.mono (by decide)) (h.c.mono (by decide)) h3]) (Ns:=[]) (m:=400) Tryz.func322 hmA (fun β=>by kernel_rfl) (by kernel_rfl) β w hh
   · exact spec_auto (args:=[rgV 0,rgV 4]) (obs:=smO r s) (res:=tB' false) (news:=[]) (evs:=[nCmp (k.a.mono (by decide)) (h.a.mono (by decide)) (cmpQ_same h1),(sSame (k.b.mono (by decide)) (h.b.mono (by decide)) (b:=false) (gsub_ne h2)).e]) (Ns:=[]) (m:=400) Tryz.func322 hmA (fun β=>by kernel_rfl) (by kernel_rfl) β w hh
 · rcases cmpQ_ne h1 with h1 | h1<;>exact spec_auto (args:=[rgV 0,rgV 4]) (obs:=smO r s) (res:=tB' false) (news:=[]) (evs:=[nCmp (k.a.mono (by decide)) (h.a.mono (by decide)) h1]) (Ns:=[]) (m:=400) Tryz.func322 hmA (fun β=>by kernel_rfl) (by kernel_rfl) β w hh
def sRSameNo {r s:RQ} (h:RSz KC r) (k:RSz KC s) (hne:s≠r):Spec Tryz.prog :=
 ⟨322,Tryz.call322,[rgV 0,rgV 4],smO r s,tB' false,[],same_ok h k hne,by kernel_rfl⟩
noncomputable def sRNorm2 {r:RQ} (h:RSz KC r) (hp:decide ((rpow r).num.sign≤0)=false):Spec Tryz.prog :=
 (sRNormal h rfl rfl (rby_ne hp)).newsTo (rgT (rone r)) rfl
theorem rone_sz2 {r:RQ} (h:FitC r) (hp:decide ((rpow r).num.sign≤0)=false):RSz KC (rone r) :=
 (rnm_sz (k:=1024) ⟨h.1.sz,h.2.1.gsz,h.2.2.sz⟩ (rby_sz ⟨h.1.sz,h.2.1.gsz,h.2.2.sz⟩ _ _) (rby_ne hp)).mono (by decide)
include hf in
theorem wheelOne (hp:decide ((rpow r).num.sign≤0)=false) (hne:rone r≠r):WheelNo (cC r):=fun β w=>by
 refine (spec_auto (obs:=[]) (news:=rgT r) (res:=.tup [rgC 0,.c (.b (.v (.bool false)))]) (evs:=[(ofG hf.2.1).e,(sRatIn hf.1).e,(sRatIn hf.2.2).e,dEq r.a,dEq r.c,(sPower (fitC_sz hf)).e,nSign (x:=rpow r) rfl,.eqv 37 (.bool (decide ((rpow r).num.sign≤0))) (.bool false) (sgn_le hp),(sRNorm2 (fitC_sz hf) hp).e,(sRSameNo (fitC_sz hf) (rone_sz2 hf hp) hne).e]) (Ns:=[(2,9),(5,5)]) (m:=1200) Tryz.func236 hmA (fun β=>by kernel_rfl) (by kernel_rfl) β w (fun k t h=>by simp at h)).mono ?_
 rintro e w' ⟨xs,h1,he,h2,h3⟩
 exact ⟨xs,h1,he,newHoldR4 h2,h3⟩
end
structure CkNo (l:List Lf):Prop where
 cl:l.all (Lf.of fun _=>false)=true
 prog:∀ (β:Env) (w:World),Calls Tryz.prog 105 (([.one (.a l)]:List SV).map (SV.den β)).toArray w fun e w'=>e=.returned (.int .i64 2)∧Below w.heap.size w w'
 ref:∀ (β:Env) (w:World),Calls Tryz.prog 103 (([.one (.a l)]:List SV).map (SV.den β)).toArray w fun e w'=>e=.returned (.int .i64 2)∧Below w.heap.size w w'
theorem of_cl {l:List Lf} (hl:l.all (Lf.of fun _=>false)=true):(([SV.one (.a l)]:List SV).all (SV.of fun k=>Nat.blt k 0)&&(SV.one (nI' 2)).of fun k=>Nat.blt k (0+0))=true:=by
 have:l.all (Lf.of fun k=>Nat.blt k 0)=true:=List.all_eq_true.2 fun x hx=>Lf.of_mono (fun _ hk=>by cases hk) x (List.all_eq_true.1 hl x hx)
 rw [Bool.and_eq_true]
 exact ⟨by rw [List.all_cons,List.all_nil,Bool.and_true]; exact this,by kernel_rfl⟩
def sCkNo {l:List Lf} (h:CkNo l):Spec Tryz.prog :=
 ⟨105,Tryz.call105,[.one (.a l)],[],.one (nI' 2),[],fun β w _=>(h.prog β w).mono fun e w' ⟨he,hb⟩=>⟨[],(fun _ h=>by cases h),by rw [he]; rfl,trivial,hb⟩,of_cl h.cl⟩
theorem rl_cl (a b c d:R4):(rL a++(rL b++rL c)++rL d).all (Lf.of fun _=>false)=true:=rfl
theorem two_of {f:FuncId} {l:List Lf} {w:World} {β:Env} (h:Calls Tryz.prog f (([.one (.a l)]:List SV).map (SV.den β)).toArray w fun e w'=>∃ xs:List Pl,freshS β w 0 xs∧e=.returned ((SV.one (nI' 2)).den (extE β 0 xs))∧newHold w' [] xs∧Below w.heap.size w w') :
  Calls Tryz.prog f (([.one (.a l)]:List SV).map (SV.den β)).toArray w fun e w'=>e=.returned (.int .i64 2)∧Below w.heap.size w w':=h.mono fun e w' ⟨xs,_,he,_,hb⟩=>⟨by rw [he]; rfl,hb⟩
theorem ckProg (a b c d:R4) (h:WheelNo (rL a++(rL b++rL c)++rL d)) (β:Env) (w:World):Calls Tryz.prog 105 (([.one (.a (rL a++(rL b++rL c)++rL d))]:List SV).map (SV.den β)).toArray w fun e w'=>e=.returned (.int .i64 2)∧Below w.heap.size w w' :=
 two_of (spec_auto (obs:=[]) (news:=[]) (res:=.one (nI' 2)) (evs:=[(sWheelNo h (rl_cl a b c d)).e]) (Ns:=[]) (m:=400) Tryz.func105 hmA (fun β=>by kernel_rfl) (by kernel_rfl) β w (fun k t h=>by simp at h))
def sR3MayQ (a:Fn) {r:Bool} (h:a.B=r):Spec Tryz.prog :=
 ⟨17,Tryz.call17,[.one (.a (rL a.r))],[],tB' r,[],fun β w hh=>by
  rw [← h]
  cases a with
  | ok x hx =>
   have:=(Fp.may3 (.ok x hx)).ok β w hh
   exact this
  | no f hf =>
   obtain ⟨r,a,e⟩:=f
   cases a with
   | ok x hx=>cases hf
   | no b c s t hn hs ht =>
    have:=(Fp.may3 (.no b c s t hn hs ht)).ok β w hh
    show Calls _ _ (([SV.one (.a (rL r))]:List SV).map (SV.den β)).toArray w _
    rw [← e]
    exact this,by kernel_rfl⟩
theorem ckNum (a:Fn) (b:Gn) (c:Fn) (h:(a.B&&(b.B&&c.B))=false) (β:Env) (w:World):Calls Tryz.prog 103 (([.one (.a (rL a.r++(rL b.x++rL b.y)++rL c.r))]:List SV).map (SV.den β)).toArray w fun e w'=>e=.returned (.int .i64 2)∧Below w.heap.size w w':=by
 have hh:∀ (k:Nat) (t:Thing),([]:List Thing)[k]?=some t→t.D w (β k):=fun k t h=>by simp at h
 refine two_of ?_
 cases h1:a.B with
 | false=>exact spec_auto (obs:=[]) (news:=[]) (res:=.one (nI' 2)) (evs:=[(sR3MayQ a h1).e]) (Ns:=[(3,9)]) (m:=400) Tryz.func103 hmA (fun β=>by kernel_rfl) (by kernel_rfl) β w hh
 | true=>cases h2:b.B with
  | false=>exact spec_auto (obs:=[]) (news:=[]) (res:=.one (nI' 2)) (evs:=[(sR3MayQ a h1).e,(sR4MayG b h2).e]) (Ns:=[(3,9)]) (m:=400) Tryz.func103 hmA (fun β=>by kernel_rfl) (by kernel_rfl) β w hh
  | true=>cases h3:c.B with
   | false=>exact spec_auto (obs:=[]) (news:=[]) (res:=.one (nI' 2)) (evs:=[(sR3MayQ a h1).e,(sR4MayG b h2).e,(sR3MayQ c h3).e]) (Ns:=[(3,9)]) (m:=400) Tryz.func103 hmA (fun β=>by kernel_rfl) (by kernel_rfl) β w hh
   | true=>rw [h1,h2,h3] at h; cases h
section
variable {r:RQ} (hf:FitC r)
noncomputable def ckE (r:RQ) (hf:FitC r):List (Ev Tryz.prog):=[(sR3MayQ (.ok r.a hf.1) rfl).e,(sR4MayG (.ok r.b hf.2.1) rfl).e,(sR3MayQ (.ok r.c hf.2.2) rfl).e,(sCPower (fitC_sz hf)).e,(sR3Sign (x:=rpow r) rfl).e]
include hf in
theorem ckPow (hp:decide ((rpow r).num.sign≤0)=true) (β:Env) (w:World):Calls Tryz.prog 103 (([.one (.a (cC r))]:List SV).map (SV.den β)).toArray w fun e w'=>e=.returned (.int .i64 2)∧Below w.heap.size w w' :=
 two_of (spec_auto (obs:=[]) (news:=[]) (res:=.one (nI' 2)) (evs:=ckE r hf++[.eqv 23 (.bool (decide ((rpow r).num.sign≤0))) (.bool true) (sgn_le hp)]) (Ns:=[(3,9)]) (m:=400) Tryz.func103 hmA (fun β=>by kernel_rfl) (by kernel_rfl) β w (fun k t h=>by simp at h))
abbrev eqRone (r s:RQ):Bool:=(fR r.a).eq (fR s.a)&&(geq (fR r.b.re) (fR r.b.im) (fR s.b.re) (fR s.b.im)&&((fR r.c).eq (fR s.c)&&true))
theorem eqRone_iff {r s:RQ}:eqRone r s=true↔r=s:=by
 unfold eqRone geq
 simp only [Bool.and_true,Bool.and_eq_true,R4.eq_iff]
 constructor
 · rintro ⟨h1,⟨h2,h3⟩,h4⟩
   obtain ⟨a,⟨b,b'⟩,c⟩:=r
   obtain ⟨d,⟨e,e'⟩,f⟩:=s
   obtain rfl:a=d:=fR_inj h1
   obtain rfl:b=e:=fR_inj h2
   obtain rfl:b'=e':=fR_inj h3
   obtain rfl:c=f:=fR_inj h4
   rfl
 · rintro rfl
   exact ⟨rfl,⟨rfl,rfl⟩,rfl⟩
def eqEvR (r s:RQ) {t:Bool} (h:eqRone r s=t):Ev Tryz.prog:=eqEvC (fR r.a) (fR r.b.re) (fR r.b.im) (fR r.c) (fR s.a) (fR s.b.re) (fR s.b.im) (fR s.c) t h
include hf in
theorem ckOne (hp:decide ((rpow r).num.sign≤0)=false) (hne:rone r≠r) (β:Env) (w:World):Calls Tryz.prog 103 (([.one (.a (cC r))]:List SV).map (SV.den β)).toArray w fun e w'=>e=.returned (.int .i64 2)∧Below w.heap.size w w' :=
 two_of (spec_auto (obs:=[]) (news:=[]) (res:=.one (nI' 2)) (evs:=ckE r hf++[.eqv 23 (.bool (decide ((rpow r).num.sign≤0))) (.bool false) (sgn_le hp),(sCNorm1 (fitC_sz hf) hp).e,eqEvR (rone r) r (t:=false) (Bool.eq_false_iff.2 fun e=>hne (eqRone_iff.1 e))]) (Ns:=[(3,9)]) (m:=400) Tryz.func103 hmA (fun β=>by kernel_rfl) (by kernel_rfl) β w (fun k t h=>by simp at h))
end
theorem cC_eq (r:RQ):cC r=rL (fR r.a)++(rL (fR r.b.re)++rL (fR r.b.im))++rL (fR r.c):=by
 unfold cC
 simp only [List.append_assoc]
theorem ckNoOf {r:RQ} (h:WheelNo (cC r)) (k:∀ (β:Env) (w:World),Calls Tryz.prog 103 (([.one (.a (cC r))]:List SV).map (SV.den β)).toArray w fun e w'=>e=.returned (.int .i64 2)∧Below w.heap.size w w') :
  CkNo (rL (fR r.a)++(rL (fR r.b.re)++rL (fR r.b.im))++rL (fR r.c)):=by
 rw [cC_eq] at h
 refine ⟨rl_cl ..,ckProg _ _ _ _ h,fun β w=>?_⟩
 have:=k β w
 rw [cC_eq] at this
 exact this
theorem ckNoNum (x:Fn) (z:Gn) (y:Fn) (h:(x.B&&(z.B&&y.B))=false):CkNo (rL x.r++(rL z.x++rL z.y)++rL y.r):=⟨rl_cl ..,ckProg _ _ _ _ (wheelNum x z y h),ckNum x z y h⟩
inductive Cp where
 | ok (r:RQ) (h:MayC r)
 | no (a b b' c:R4) (h:CkNo (rL a++(rL b++rL b')++rL c))
def Cp.B:Cp→Bool
 | .ok ..=>true
 | .no ..=>false
def Cp.a:Cp→R4
 | .ok r _=>fR r.a
 | .no a _ _ _ _=>a
def Cp.b:Cp→R4
 | .ok r _=>fR r.b.re
 | .no _ b _ _ _=>b
def Cp.b':Cp→R4
 | .ok r _=>fR r.b.im
 | .no _ _ b _ _=>b
def Cp.c:Cp→R4
 | .ok r _=>fR r.c
 | .no _ _ _ c _=>c
theorem cp_of (a b b' c:R4) (ha:a.s.size≤maxLen∧a.t.size≤maxLen) (hb:b.s.size≤maxLen∧b.t.size≤maxLen) (hb':b'.s.size≤maxLen∧b'.t.size≤maxLen) (hc:c.s.size≤maxLen∧c.t.size≤maxLen):∃ p:Cp,p.a=a∧p.b=b∧p.b'=b'∧p.c=c:=by
 obtain ⟨x,rfl⟩:=fn_of a ha
 obtain ⟨z,rfl,rfl⟩:=gn_of b b' hb hb'
 obtain ⟨y,rfl⟩:=fn_of c hc
 cases h:(x.B&&(z.B&&y.B)) with
 | false=>exact ⟨.no x.r z.x z.y y.r (ckNoNum x z y h),rfl,rfl,rfl,rfl⟩
 | true =>
  cases x with
  | no=>cases h
  | ok x hx=>cases z with
   | no=>cases h
   | ok z hz=>cases y with
    | no=>cases h
    | ok y hy =>
     have hf:FitC ⟨x,z,y⟩:=⟨hx,hz,hy⟩
     cases hp:decide ((rpow ⟨x,z,y⟩).num.sign≤0) with
     | true=>exact ⟨.no (fR x) (fR z.re) (fR z.im) (fR y) (ckNoOf (wheelPow hf hp) (ckPow hf hp)),rfl,rfl,rfl,rfl⟩
     | false =>
      by_cases hne:rone ⟨x,z,y⟩=⟨x,z,y⟩
      · exact ⟨.ok ⟨x,z,y⟩ ⟨hf,hp,hne⟩,rfl,rfl,rfl,rfl⟩
      · exact ⟨.no (fR x) (fR z.re) (fR z.im) (fR y) (ckNoOf (wheelOne hf hp hne) (ckOne hf hp hne)),rfl,rfl,rfl,rfl⟩
abbrev one1:Rat:=Rat.divInt 1 1
abbrev KH:Nat:=1100
abbrev rg (x:Rat):GQ:=⟨x,0⟩
def wy0 (f:RQ):GQ:=gadd (rg f.b.re) (gmul (rg f.b.im) (gint 0 1))
def wayQ (f:RQ):GQ:=gconj (wy0 f)
abbrev KI:Nat:=300
abbrev i21:Rat:=Rat.divInt 2 1
def cuN (l:RQ):Rat:=gnorm (wayQ l)
section
variable {l k:RQ} (hl:RSz KI l) (hk:RSz KI k) (h0:k.a≠0) (hn:cuN l≠0)
theorem mul_ne {x y:Rat} (hx:x≠0) (hy:y≠0):x*y≠0:=fun h=>(Rat.mul_eq_zero.1 h).elim hx hy
end
end Go.Proofs.YtdiemgedlfnlmaaGreat.Y
end
section
namespace Go.Proofs.YtdiemgedlfnlmaaGreat.Y
open Go Go.RowKit
theorem Eqs.left {a b:Eqs} (h:Eqs.ok (a++b)):Eqs.ok a:=fun p hp=>h p (List.mem_append.2 (.inl hp))
theorem Eqs.right {a b:Eqs} (h:Eqs.ok (a++b)):Eqs.ok b:=fun p hp=>h p (List.mem_append.2 (.inr hp))
theorem bif_ok {b:Bool} (h:Eqs.ok (bif b then [] else Eqs.no)):b=true:=by
 cases b
 · exact (Eqs.no_ok h).elim
 · rfl
end Go.Proofs.YtdiemgedlfnlmaaGreat.Y
end
section
namespace Go.Proofs.YtdiemgedlfnlmaaGreat.Y
open Go Go.RowKit
set_option maxRecDepth 100000
theorem sq_nonneg (x:Rat):0≤x*x:=by
 by_cases h:0≤x
 · exact Rat.mul_nonneg h h
 · have:=Rat.mul_nonneg (a:=-x) (b:=-x) (by grind) (by grind)
   grind
theorem i21v:i21=2:=of_decide_eq_true (by kernel_rfl:decide (i21=2)=true)
theorem fpr_two (f g:RQ):2*fpr f g=2*(f.b.re*g.b.re+f.b.im*g.b.im)-(f.a*g.c+f.c*g.a):=by
 have h:(Rat.divInt 2 1:Rat)=2:=i21v
 unfold fpr
 rw [h]
 grind
section
variable {l k:RQ} (ha:l.a=0) (hn:cuN l≠0) {y:Rat} (hy:y≠0)
theorem inv_ne {y:Rat} (hy:y≠0):y⁻¹≠0:=by
 intro e
 have:=Rat.mul_inv_cancel y hy
 rw [e,Rat.mul_zero] at this
 exact absurd this (by decide)
end
inductive Zk where
 | no0
 | no1
 | no2
 | no3
 | all
def Zk.at (m:RQ):Zk→Prop
 | .no0=>decide (m.a=0)=false
 | .no1=>decide (m.a=0)=true∧decide (m.b.re=0)=false
 | .no2=>decide (m.a=0)=true∧decide (m.b.re=0)=true∧decide (m.b.im=0)=false
 | .no3=>decide (m.a=0)=true∧decide (m.b.re=0)=true∧decide (m.b.im=0)=true∧decide (m.c=0)=false
 | .all=>decide (m.a=0)=true∧decide (m.b.re=0)=true∧decide (m.b.im=0)=true∧decide (m.c=0)=true
theorem Zk.ex (m:RQ):∃ k:Zk,k.at m:=by
 cases h1:decide (m.a=0) with
 | false=>exact ⟨.no0,h1⟩
 | true=>cases h2:decide (m.b.re=0) with
  | false=>exact ⟨.no1,h1,h2⟩
  | true=>cases h3:decide (m.b.im=0) with
   | false=>exact ⟨.no2,h1,h2,h3⟩
   | true=>cases h4:decide (m.c=0) with
    | false=>exact ⟨.no3,h1,h2,h3,h4⟩
    | true=>exact ⟨.all,h1,h2,h3,h4⟩
theorem mvExt {r s:RQ} (h1:r.a=s.a) (h2:r.b.re=s.b.re) (h3:r.b.im=s.b.im) (h4:r.c=s.c):r=s:=by
 obtain ⟨a,⟨b,b'⟩,c⟩:=r
 obtain ⟨d,⟨e,e'⟩,f⟩:=s
 simp only at h1 h2 h3 h4
 subst h1 h2 h3 h4
 rfl
theorem mvMul0 {x y:Rat} (hy:y≠0):decide (x*y⁻¹=0)=decide (x=0):=by
 refine decide_eq_decide.2 ⟨fun h=>?_,fun h=>by rw [h,Rat.zero_mul]⟩
 rcases Rat.mul_eq_zero.1 h with h | h
 · exact h
 · exact absurd h (inv_ne hy)
theorem rnm_rnm (r:RQ) (y z:Rat):rnm (rnm r y) z=rnm r (y*z):=by
 unfold rnm gscale
 refine mvExt ?_ ?_ ?_ ?_<;>dsimp only<;>(rw [Rat.inv_mul_rev]; grind)
theorem rby_rnm {r:RQ} {y:Rat} (hy:y≠0):rby (rnm r y)=rby r*y⁻¹:=by
 unfold rby
 rw [show (rnm r y).a=r.a*y⁻¹ from rfl,show (rnm r y).b.re=r.b.re*y⁻¹ from rfl,mvMul0 hy,mvMul0 hy]
 unfold rbyQ
 cases decide (r.a=0)<;>cases decide (r.b.re=0)<;>rfl
theorem rone_rnm {r:RQ} {y:Rat} (hy:y≠0):rone (rnm r y)=rone r:=by
 unfold rone
 rw [rby_rnm hy,rnm_rnm]
 congr 1
 have:=Rat.mul_inv_cancel y hy
 grind
theorem fpr_rnm (f g:RQ) (y:Rat):fpr f (rnm g y)=fpr f g*y⁻¹:=by
 unfold fpr rnm gscale
 rw [Rat.div_def,Rat.div_def]
 grind
theorem fpr_comm (f g:RQ):fpr f g=fpr g f:=by
 unfold fpr
 rw [Rat.div_def,Rat.div_def]
 grind
section
variable {f g:RQ} (hf:MayC f) (hg:MayC g) (sf:RSz 60 f) (sg:RSz 60 g) (hs:eqRone f g=false) (hc:cmpQ (fsq f g) one1 = -1)
theorem mpNum_pos {x:Rat}:0<x.num↔0<x:=by
 have h1:0≤x.num↔0≤x:=Rat.num_nonneg
 have h2:x.num=0↔x=0:=Rat.num_eq_zero
 constructor
 · intro h
   have h3:=h1.1 (by omega)
   have h4:x≠0:=fun e=>by have:=h2.2 e; omega
   grind
 · intro h
   have h3:=h1.2 (by grind)
   have h4:x.num≠0:=fun e=>by have:=h2.1 e; grind
   omega
theorem may_pos {f:RQ} (hf:MayC f):0<fpr f f:=by
 have h:=of_decide_eq_false hf.pow
 rw [← rpow_fpr] at h
 have h2:0<(fpr f f).num:=by
  rcases Int.lt_trichotomy (fpr f f).num 0 with e | e | e
  · rw [Int.sign_eq_neg_one_of_neg e] at h; omega
  · rw [e] at h; exact absurd (by decide) h
  · exact e
 exact mpNum_pos.1 h2
end
def dtN (n:MQ):Rat:=gnorm (gsub (gmul n.a n.d) (gmul n.b n.c))
set_option maxHeartbeats 2000000 in
theorem im_fpr (r s:RQ) (n:MQ) (t:Bool):fpr (imQ r n t) (imQ s n t)=dtN n*fpr r s:=by
 have h1:=fpr_two (imQ r n t) (imQ s n t)
 have h2:=fpr_two r s
 have h:2*fpr (imQ r n t) (imQ s n t)=2*(dtN n*fpr r s):=by
  rw [h1,show 2*(dtN n*fpr r s)=dtN n*(2*fpr r s) by grind,h2]
  obtain ⟨ra,⟨rx,ry⟩,rc⟩:=r
  obtain ⟨sa,⟨sx,sy⟩,sc⟩:=s
  obtain ⟨⟨ax,ay⟩,⟨bx,by'⟩,⟨cx,cy⟩,⟨dx,dy⟩,nt⟩:=n
  clear h1 h2
  cases t
  · simp only [imQ,imF,imX,imB,dtN,gadd,gsub,gscale,gmul,gconj,gnorm,cond_false,cond_true]
    grind
  · simp only [imQ,imF,imX,imB,dtN,gadd,gsub,gscale,gmul,gconj,gnorm,cond_false,cond_true]
    grind
 grind
def mscale (n:MQ) (z:GQ):MQ:=⟨gmul n.a z,gmul n.b z,gmul n.c z,gmul n.d z,n.t⟩
def rscale (r:RQ) (x:Rat):RQ:=⟨r.a*x,gscale r.b x,r.c*x⟩
theorem rscale_rnm {r:RQ} {x:Rat} (h:x≠0):rscale r x=rnm r x⁻¹:=by
 unfold rscale rnm
 rw [Rat.inv_inv]
theorem im_mscale (r:RQ) (n:MQ) (z:GQ) (t:Bool):imQ r (mscale n z) t=rscale (imQ r n t) (gnorm z):=by
 obtain ⟨ra,⟨rx,ry⟩,rc⟩:=r
 obtain ⟨⟨ax,ay⟩,⟨bx,by'⟩,⟨cx,cy⟩,⟨dx,dy⟩,nt⟩:=n
 obtain ⟨zx,zy⟩:=z
 cases t<;>(refine mvExt ?_ ?_ ?_ ?_<;>(simp only [imQ,imF,imX,imB,mscale,rscale,gadd,gsub,gscale,gmul,gconj,gnorm,cond_false,cond_true]; grind))
theorem im_rscale (r:RQ) (n:MQ) (x:Rat) (t:Bool):imQ (rscale r x) n t=rscale (imQ r n t) x:=by
 obtain ⟨ra,⟨rx,ry⟩,rc⟩:=r
 obtain ⟨⟨ax,ay⟩,⟨bx,by'⟩,⟨cx,cy⟩,⟨dx,dy⟩,nt⟩:=n
 cases t<;>(refine mvExt ?_ ?_ ?_ ?_<;>(simp only [imQ,imF,imX,imB,mscale,rscale,gadd,gsub,gscale,gmul,gconj,gnorm,cond_false,cond_true]; grind))
theorem rone_rscale {r:RQ} {x:Rat} (h:x≠0):rone (rscale r x)=rone r:=by
 rw [rscale_rnm h,rone_rnm (inv_ne h)]
theorem gdiv_mul (z w:GQ):gdiv z w=gmul z (gscale (gconj w) (gnorm w)⁻¹):=by
 unfold gdiv
 generalize (gnorm w)⁻¹=i
 unfold gscale gmul gconj
 refine GQ.ext2 ?_ ?_<;>(dsimp only; grind)
theorem gn_ne {w:GQ} (h:gzero w=false):gnorm w≠0:=by
 intro e
 have:=sq_sum (x:=w.re) (y:=w.im) e
 rw [gzero_iff.2 this] at h
 cases h
section
variable {r:RQ} (h:MayC r) (hr:RSz 14 r) {m:MQ} (hm:MSz 12 m) {b:Bool} (h0:gzero (bif b then (mconj (mundo0 m) m.t).d else (mconj (mundo0 m) m.t).c)=false)
abbrev imX0 (r:RQ) (m:MQ) (b:Bool):RQ:=imQ r (unQ m b) m.t
end
theorem dt_scale (n:MQ) (z:GQ):dtN (mscale n z)=dtN n*(gnorm z*gnorm z):=by
 obtain ⟨⟨ax,ay⟩,⟨bx,by'⟩,⟨cx,cy⟩,⟨dx,dy⟩,nt⟩:=n
 obtain ⟨zx,zy⟩:=z
 simp only [dtN,mscale,gsub,gmul,gnorm]
 grind
theorem dt_undo (m:MQ):dtN (mconj (mundo0 m) m.t)=gnorm (mdet m):=by
 obtain ⟨⟨ax,ay⟩,⟨bx,by'⟩,⟨cx,cy⟩,⟨dx,dy⟩,nt⟩:=m
 cases nt<;>(simp only [dtN,mconj,mundo0,mdet,gsub,gmul,gnorm,gneg,gconj,cond_true,cond_false]; grind)
theorem gn_pos {w:GQ} (h:gnorm w≠0):0<gnorm w:=by
 have h1:=sq_nonneg w.re
 have h2:=sq_nonneg w.im
 have:gnorm w=w.re*w.re+w.im*w.im:=rfl
 grind
theorem dt_un {m:MQ} {b:Bool} (hd:gzero (mdet m)=false) (h0:gzero (bif b then (mconj (mundo0 m) m.t).d else (mconj (mundo0 m) m.t).c)=false):0<dtN (unQ m b):=by
 have e:unQ m b=mscale (mconj (mundo0 m) m.t) (gscale (gconj (bif b then (mconj (mundo0 m) m.t).d else (mconj (mundo0 m) m.t).c)) (gnorm (bif b then (mconj (mundo0 m) m.t).d else (mconj (mundo0 m) m.t).c))⁻¹):=by
  unfold unQ mnormB
  simp only [gdiv_mul]
  rfl
 rw [e,dt_scale,dt_undo]
 have h1:=gn_ne h0
 have h2:gnorm (gscale (gconj (bif b then (mconj (mundo0 m) m.t).d else (mconj (mundo0 m) m.t).c)) (gnorm (bif b then (mconj (mundo0 m) m.t).d else (mconj (mundo0 m) m.t).c))⁻¹)≠0:=by
  generalize (bif b then (mconj (mundo0 m) m.t).d else (mconj (mundo0 m) m.t).c)=w at *
  have e:gnorm (gscale (gconj w) (gnorm w)⁻¹)=gnorm w*((gnorm w)⁻¹*(gnorm w)⁻¹):=by
   generalize (gnorm w)⁻¹=i
   unfold gnorm gscale gconj
   grind
  rw [e]
  exact mul_ne h1 (mul_ne (inv_ne h1) (inv_ne h1))
 have h3:=gn_pos h2
 exact Rat.mul_pos (gn_pos (gn_ne hd)) (Rat.mul_pos h3 h3)
theorem wt_pos {r:RQ} (h:0<fpr r r):wtB r=false:=by
 unfold wtB
 rw [← rpow_fpr,Int.sign_eq_one_of_pos (mpNum_pos.2 h)]
 rfl
theorem may_told {r:RQ} (sz:RSz 1024 (rone r)) (hp:0<fpr r r):MayC (rone r):=by
 have hw:=wt_pos hp
 have hy:rby r≠0:=rby_ne hw
 refine ⟨⟨sz.a.fit (by decide),⟨sz.b.1.fit (by decide),sz.b.2.fit (by decide)⟩,sz.c.fit (by decide)⟩,?_,rone_rnm hy⟩
 have h1:rpow (rone r)=rpow r*((rby r)⁻¹*(rby r)⁻¹):=by
  rw [← rpow_fpr,← rpow_fpr]
  unfold rone
  rw [fpr_rnm,fpr_comm,fpr_rnm]
  grind
 have h3:0<(rby r)⁻¹*(rby r)⁻¹:=by
  have h4:=sq_nonneg (rby r)⁻¹
  have h5:(rby r)⁻¹*(rby r)⁻¹≠0:=mul_ne (inv_ne hy) (inv_ne hy)
  grind
 have h4:0<(rpow (rone r)).num:=mpNum_pos.2 (by rw [h1]; exact Rat.mul_pos (by rw [← rpow_fpr]; exact hp) h3)
 rw [Int.sign_eq_one_of_pos h4]
 rfl
section
variable {r:RQ} (h:MayC r) (hr:RSz 14 r) {m:MQ} (hm:MSz 12 m) (hd:gzero (mdet m)=false) {b:Bool} (h0:gzero (bif b then (mconj (mundo0 m) m.t).d else (mconj (mundo0 m) m.t).c)=false)
include h hd h0 in
theorem im_pos:0<fpr (imX0 r m b) (imX0 r m b):=by
 rw [show fpr (imX0 r m b) (imX0 r m b)=fpr (imQ r (unQ m b) m.t) (imQ r (unQ m b) m.t) from rfl,im_fpr]
 exact Rat.mul_pos (dt_un hd h0) (may_pos h)
end
theorem RQ.ext4 {r s:RQ} (h1:r.a=s.a) (h2:r.b.re=s.b.re) (h3:r.b.im=s.b.im) (h4:r.c=s.c):r=s:=by
 obtain ⟨a,⟨x,y⟩,c⟩:=r
 obtain ⟨a',⟨x',y'⟩,c'⟩:=s
 dsimp only at h1 h2 h3 h4
 subst h1 h2 h3 h4
 rfl
set_option maxHeartbeats 16000000 in
theorem im_cmp0 (r:RQ) (N M:MQ):imQ (imQ r N N.t) M M.t=imQ r (mbeh N M) (mbeh N M).t:=by
 obtain ⟨a,⟨bx,b'⟩,c⟩:=r
 obtain ⟨⟨ax,ay⟩,⟨bbx,bby⟩,⟨cx,cy⟩,⟨dx,dy⟩,nt⟩:=N
 obtain ⟨⟨px,py⟩,⟨qx,qy⟩,⟨ux,uy⟩,⟨sx,sy⟩,mt⟩:=M
 cases nt<;>cases mt<;>(refine RQ.ext4 ?_ ?_ ?_ ?_<;>(simp only [mbeh,mconj,imQ,imF,imX,imB,gadd,gsub,gscale,gmul,gconj,gnorm,cond_false,cond_true,bne_self_eq_false,Bool.true_bne,Bool.false_bne,Bool.bne_true,Bool.bne_false,Bool.not_false,Bool.not_true]; grind))
theorem minv0_beh (m n:MQ):minv0 (mbeh m n)=mbeh (minv0 n) (minv0 m):=by
 obtain ⟨⟨ax,ay⟩,⟨bbx,bby⟩,⟨cx,cy⟩,⟨dx,dy⟩,nt⟩:=m
 obtain ⟨⟨px,py⟩,⟨qx,qy⟩,⟨ux,uy⟩,⟨sx,sy⟩,mt⟩:=n
 cases nt<;>cases mt<;>(simp only [minv0,mundo0,mbeh,mconj,gadd,gmul,gneg,gconj,cond_false,cond_true,bne_self_eq_false,Bool.true_bne,Bool.false_bne,Bool.bne_true,Bool.bne_false,Bool.not_false,Bool.not_true]; congr 1<;>(congr 1<;>grind))
theorem minv0_scale (m:MQ) (z:GQ):minv0 (mscale m z)=mscale (minv0 m) (bif m.t then gconj z else z):=by
 obtain ⟨⟨ax,ay⟩,⟨bbx,bby⟩,⟨cx,cy⟩,⟨dx,dy⟩,nt⟩:=m
 obtain ⟨zx,zy⟩:=z
 cases nt<;>(simp only [minv0,mundo0,mscale,mconj,gmul,gneg,gconj,cond_false,cond_true]; congr 1<;>(congr 1<;>grind))
theorem norm_scale {m:MQ} (h:Reg m):∃ y:GQ,gnorm y≠0∧mnorm m=mscale m y:=by
 have h0:=h.b0
 unfold mnorm mnormB
 generalize (bif gzero m.c then m.d else m.c)=w at *
 refine ⟨gscale (gconj w) (gnorm w)⁻¹,?_,?_⟩
 · have h1:=gn_ne h0
   have e:gnorm (gscale (gconj w) (gnorm w)⁻¹)=gnorm w*((gnorm w)⁻¹*(gnorm w)⁻¹):=by
    generalize (gnorm w)⁻¹=i
    unfold gnorm gscale gconj
    grind
   rw [e]
   exact mul_ne h1 (mul_ne (inv_ne h1) (inv_ne h1))
 · simp only [gdiv_mul]
   rfl
def imR (r:RQ) (m:MQ):RQ:=rone (imQ r (minv m) m.t)
theorem imR_minv0 (r:RQ) {m:MQ} (h:Reg m):imR r m=rone (imQ r (minv0 m) m.t):=by
 obtain ⟨y,y0,hy⟩:=norm_scale (minv_reg h)
 unfold imR minv
 rw [hy,im_mscale,rone_rscale y0]
theorem rone_as {r:RQ} (h:rby r≠0):∃ x,x≠0∧rone r=rscale r x:=⟨(rby r)⁻¹,inv_ne h,by
 rw [rscale_rnm (inv_ne h),Rat.inv_inv]
 rfl⟩
theorem im_comp (r:RQ) {m n:MQ} (hm:Reg m) (hn:Reg n) (h:rby (imQ r (minv0 n) n.t)≠0):imR (imR r n) m=imR r (mcmp m n):=by
 obtain ⟨x,x0,hx⟩:=rone_as h
 have hb:=hm.beh hn
 rw [imR_minv0 _ hm,imR_minv0 r hn,hx,im_rscale,rone_rscale x0]
 obtain ⟨y,y0,hy⟩:=norm_scale hb
 rw [imR_minv0 r (hm.cmp hn)]
 unfold mcmp
 rw [hy,minv0_scale,im_mscale,minv0_beh]
 have hg:gnorm (bif (mbeh m n).t then gconj y else y)≠0:=by
  cases (mbeh m n).t
  · exact y0
  · have:gnorm (gconj y)=gnorm y:=by unfold gnorm gconj; grind
    show gnorm (gconj y)≠0
    rw [this]; exact y0
 rw [rone_rscale hg]
 have e1:=im_cmp0 r (minv0 n) (minv0 m)
 have e2:(mbeh (minv0 n) (minv0 m)).t=(mscale (mbeh m n) y).t:=by
  show (n.t != m.t)=(m.t != n.t)
  cases n.t<;>cases m.t<;>rfl
 rw [← e2,← e1]
 rfl
end Go.Proofs.YtdiemgedlfnlmaaGreat.Y
end
