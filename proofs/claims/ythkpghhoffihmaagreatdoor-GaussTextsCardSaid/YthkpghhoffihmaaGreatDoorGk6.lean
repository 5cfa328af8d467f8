/- May, Wrw, RdM, RdW, RdQ, RdG, RdS, StN, SeS, Sz, Gqa. -/
import Derived.Lib.SplitLaws
import Derived.Laws.OwnMore
import Derived.Test.YthkpghhoffihmaaGreatDoorGk5
set_option linter.unnecessarySimpa false
set_option linter.unusedVariables false
set_option linter.unusedSimpArgs false
section
namespace Go.Proofs.YthkpghhoffihmaaGreatDoor
open Go.RowKit
theorem wl_size {n:Nat} {k:Nat} (h:(mag n).size≤k):(dig n).length≤(k+3)/4:=by
 refine dig_len_le _ _ ?_
 rw [mag_size_le,p256] at h
 rw [p32]
 exact Nat.lt_of_lt_of_le h (Nat.pow_le_pow_right (by decide) (by omega))
theorem okn_size {n:Int} (h:(mag n.natAbs).size≤16384):Okn n:=by
 have:=wl_size h
 unfold Okn
 omega
theorem mag_mono {a b k:Nat} (h:a≤b) (hk:(mag b).size≤k):(mag a).size≤k:=by
 rw [mag_size_le] at *
 omega
theorem num_le (n d:Int) (hd:d≠0):(Rat.divInt n d).num.natAbs≤n.natAbs:=by
 rw [Rat.num_divInt]
 refine Nat.le_trans (Int.natAbs_ediv_le_natAbs _ _) ?_
 rw [Int.natAbs_mul]
 have h:d.sign.natAbs≤1:=by
  rcases Int.lt_trichotomy d 0 with h | h | h
  · rw [Int.sign_eq_neg_one_of_neg h]; decide
  · exact absurd h hd
  · rw [Int.sign_eq_one_of_pos h]; decide
 calc d.sign.natAbs*n.natAbs≤1*n.natAbs:=Nat.mul_le_mul_right _ h
  _=n.natAbs:=Nat.one_mul _
theorem den_le (n d:Int) (hd:d≠0):(Rat.divInt n d).den≤d.natAbs:=by
 rw [Rat.den_divInt,if_neg hd]
 exact Nat.div_le_self _ _
theorem okR_divInt {n d:Int} (hd:d≠0) (h1:(mag n.natAbs).size≤16384) (h2:(mag d.natAbs).size≤16384):OkR (Rat.divInt n d):=by
 have k1:=wl_size (mag_mono (num_le n d hd) h1)
 have k2:=wl_size (mag_mono (den_le n d hd) h2)
 refine ⟨?_,?_⟩
 · show (dig _).length≤_
   omega
 · show (dig (((Rat.divInt n d).den:Int)).natAbs).length≤_
   rw [Int.natAbs_natCast]
   omega
def IsFrac (v:Value):Prop:=∃ q,Fit q∧v=fracV q
theorem agg4 {b c b' c':Bool} {s t s' t':ByteArray} (h:(Value.agg #[.bool b,.string s,.bool c,.string t])=.agg #[.bool b',.string s',.bool c',.string t']):b=b'∧s=s'∧c=c'∧t=t':=by
 injection h with h
 injection h with h
 injection h with h1 h
 injection h with h2 h
 injection h with h3 h
 injection h with h4 _
 injection h1 with h1
 injection h2 with h2
 injection h3 with h3
 injection h4 with h4
 exact ⟨h1,h2,h3,h4⟩
theorem isFrac_parts {b c:Bool} {s t:ByteArray} (h:IsFrac (.agg #[.bool b,.string s,.bool c,.string t])) :
  WholeOk b s∧WholeOk c t∧s.size≤1024∧t.size≤1024∧0<(numOf c t)∧(Value.agg #[.bool b,.string s,.bool c,.string t])=fracV (Rat.divInt (numOf b s) (numOf c t)):=by
 obtain ⟨q,hf,hv⟩:=h
 obtain ⟨rfl,rfl,rfl,rfl⟩:=agg4 hv
 have h1:=ok_wholeV q.num (Nat.le_trans hf.1 (by decide))
 have h2:=ok_wholeV (q.den:Int) (by rw [Int.natAbs_natCast]; exact Nat.le_trans hf.2 (by decide))
 have e:decide ((q.den:Int)<0)=false:=by simp
 rw [e,Int.natAbs_natCast] at h2
 have n1:=numOf_mag q.num
 have n2:=numOf_mag (q.den:Int)
 rw [e,Int.natAbs_natCast] at n2
 refine ⟨h1,h2,hf.1,hf.2,?_,?_⟩
 · rw [n2]; have:=q.den_pos; omega
 · rw [n1,n2,Rat.num_divInt_den]
   rfl
theorem isFrac_of {b c:Bool} {s t:ByteArray} (h1:s.size≤1024) (h2:t.size≤1024) {q:Rat} (h:(Value.agg #[.bool b,.string s,.bool c,.string t])=fracV q):IsFrac (.agg #[.bool b,.string s,.bool c,.string t]):=by
 refine ⟨q,?_,h⟩
 obtain ⟨rfl,rfl,rfl,rfl⟩:=agg4 h
 exact ⟨h1,h2⟩
theorem toList_inj {a b:ByteArray}:a.toList=b.toList↔a=b:=by
 constructor
 · intro h
   rw [ByteArray.toList_eq,ByteArray.toList_eq] at h
   obtain ⟨⟨x⟩⟩:=a
   obtain ⟨⟨y⟩⟩:=b
   have:x=y:=h
   rw [this]
 · rintro rfl; rfl
theorem may_key {q0:Rat} {b c p:Bool} {s t s' t':ByteArray} (h0:q0=Rat.divInt (numOf b s) (numOf c t)) (hp:p=decide (q0.num<0)) (hs:s'=mag q0.num.natAbs) (ht:t'=mag q0.den) (h3:s.size≤1024) (h4:t.size≤1024) :
  ((p==b&&s'.toList==s.toList)&&(false==c&&t'.toList==t.toList))=true↔IsFrac (.agg #[.bool b,.string s,.bool c,.string t]):=by
 have e0:fracV q0=.agg #[.bool p,.string s',.bool false,.string t']:=by rw [hp,hs,ht]; rfl
 simp only [Bool.and_eq_true,beq_iff_eq,toList_inj]
 constructor
 · rintro ⟨⟨rfl,rfl⟩,rfl,rfl⟩
   exact isFrac_of h3 h4 e0.symm
 · intro h
   obtain ⟨_,_,_,_,_,h6⟩:=isFrac_parts h
   rw [← h0,e0] at h6
   obtain ⟨h1,h2,h3,h4⟩:=agg4 h6
   exact ⟨⟨h1.symm,h2.symm⟩,h3.symm,h4.symm⟩
theorem eqtree {α:Type} (p b c:Bool) (s s' t t':ByteArray) (X Y:α):(if p=b then if s.toList=s'.toList then if c=true then Y else if t.toList=t'.toList then X else Y else Y else Y)=if ((p==b&&s.toList==s'.toList)&&(false==c&&t.toList==t'.toList))=true then X else Y:=by
 by_cases h1:p=b<;>by_cases h2:s.toList=s'.toList<;>cases c<;>by_cases h4:t.toList=t'.toList<;>simp [h1,h2,h4]
def MayPost (w0:World) (v:Value) (e:Ending) (w':World):Prop:=∃ r,e=.returned (.bool r)∧(r=true↔IsFrac v)∧Below w0.heap.size w0 w'
set_option maxHeartbeats 1600000 in
set_option maxRecDepth 100000 in
theorem May_any {w0:World} (b c:Bool) (s t:ByteArray) (hs:s.size≤maxLen) (ht:t.size≤maxLen) :
  Calls Tryz.prog 104 #[.agg #[.bool b,.string s,.bool c,.string t]] w0 (MayPost w0 (.agg #[.bool b,.string s,.bool c,.string t])):=by
 have HS:=Lib.hid hs
 have HT:=Lib.hid ht
 have HW0:=Lib.hid (below_new w0 (.cells #[.bool b,.string s,.bool c,.string t] 25))
 have HX0:=Lib.hid (BoxAt.new w0 #[.bool b,.string s,.bool c,.string t] 25)
 clear hs ht
 have hc0:=HX0.out.cell 0 (.bool b) rfl
 have hc1:=HX0.out.cell 1 (.string s) rfl
 have hc2:=HX0.out.cell 2 (.bool c) rfl
 have hc3:=HX0.out.cell 3 (.string t) rfl
 go_enter Tryz.func104,Tryz.ntmps104
 by_cases h1:WholeOk b s
 · have H1:=Lib.hid h1
   clear h1
   go_wp2_with fail
   refine (Check_any b s HS.out).mono ?_
   rintro e w1 ⟨k,rfl,hk,hb⟩
   obtain rfl:k=0:=hk.elim (fun h=>h.1) (fun h=>absurd H1.out h.2)
   clear hk
   have HX1:=Lib.hid (HX0.out.on hb)
   have HW1:=Lib.hid (HW0.out.trans (hb.mono HW0.out.size))
   clear hb hc0 hc1 hc2 hc3
   have hc0:=HX1.out.cell 0 (.bool b) rfl
   have hc1:=HX1.out.cell 1 (.string s) rfl
   have hc2:=HX1.out.cell 2 (.bool c) rfl
   have hc3:=HX1.out.cell 3 (.string t) rfl
   by_cases h2:WholeOk c t
   · have H2:=Lib.hid h2
     clear h2
     go_wp2_with fail
     refine (Check_any c t HT.out).mono ?_
     rintro e w2 ⟨k,rfl,hk,hb⟩
     obtain rfl:k=0:=hk.elim (fun h=>h.1) (fun h=>absurd H2.out h.2)
     clear hk
     have HX2:=Lib.hid (HX1.out.on hb)
     have HW2:=Lib.hid (HW1.out.trans (hb.mono HW1.out.size))
     clear hb hc0 hc1 hc2 hc3
     have hc0:=HX2.out.cell 0 (.bool b) rfl
     have hc1:=HX2.out.cell 1 (.string s) rfl
     have hc2:=HX2.out.cell 2 (.bool c) rfl
     have hc3:=HX2.out.cell 3 (.string t) rfl
     by_cases h3:s.size≤1024
     · have H3:=Lib.hid h3
       go_wp2_with fail
       refine (shortF_any b s true (by simpa using h3)).mono ?_
       rintro e w3 ⟨rfl,hb⟩
       have HX3:=Lib.hid (HX2.out.on hb)
       have HW3:=Lib.hid (HW2.out.trans (hb.mono HW2.out.size))
       clear hb hc0 hc1 hc2 hc3
       have hc0:=HX3.out.cell 0 (.bool b) rfl
       have hc1:=HX3.out.cell 1 (.string s) rfl
       have hc2:=HX3.out.cell 2 (.bool c) rfl
       have hc3:=HX3.out.cell 3 (.string t) rfl
       clear h3
       by_cases h4:t.size≤1024
       · have H4:=Lib.hid h4
         go_wp2_with fail
         refine (shortF_any c t true (by simpa using h4)).mono ?_
         rintro e w4 ⟨rfl,hb⟩
         have HX4:=Lib.hid (HX3.out.on hb)
         have HW4:=Lib.hid (HW3.out.trans (hb.mono HW3.out.size))
         clear hb hc0 hc1 hc2 hc3
         have hc0:=HX4.out.cell 0 (.bool b) rfl
         have hc1:=HX4.out.cell 1 (.string s) rfl
         have hc2:=HX4.out.cell 2 (.bool c) rfl
         have hc3:=HX4.out.cell 3 (.string t) rfl
         clear h4
         have hn:=numOf_ok H2.out
         by_cases h5:0<numOf c t
         · have hsg:(numOf c t).sign=1:=Int.sign_eq_one_of_pos h5
           have H5:=Lib.hid h5
           have HSG:=Lib.hid hsg
           clear h5 hsg hn
           go_wp2_with fail
           refine (WSign_any c t HT.out).mono ?_
           rintro e w5 ⟨k,rfl,hk,hb⟩
           obtain rfl:k=1:=hk.elim (fun h=>h.2.trans HSG.out) (fun h=>absurd H2.out h.1)
           clear hk
           have HX5:=Lib.hid (HX4.out.on hb)
           have HW5:=Lib.hid (HW4.out.trans (hb.mono HW4.out.size))
           clear hb hc0 hc1 hc2 hc3
           have hc0:=HX5.out.cell 0 (.bool b) rfl
           have hc1:=HX5.out.cell 1 (.string s) rfl
           have hc2:=HX5.out.cell 2 (.bool c) rfl
           have hc3:=HX5.out.cell 3 (.string t) rfl
           obtain ⟨q0,hq0⟩:∃ q0,q0=Rat.divInt (numOf b s) (numOf c t):=⟨_,rfl⟩
           have H0:Hid (numOf c t≠0):=by have:=H5.out; unfold Hid; omega
           have hz1:(mag (numOf b s).natAbs).size≤16384:=by rw [(numOf_ok H1.out).2.1]; exact Nat.le_trans H3.out (by decide)
           have hz2:(mag (numOf c t).natAbs).size≤16384:=by rw [(numOf_ok H2.out).2.1]; exact Nat.le_trans H4.out (by decide)
           have KQ:Hid (OkR q0):=by rw [hq0]; exact okR_divInt H0.out hz1 hz2
           have K1:Hid (Okn (numOf b s)):=okn_size hz1
           have K2:Hid (Okn (numOf c t)):=okn_size hz2
           have HQ0:=Lib.hid hq0
           clear hz1 hz2 hq0 hc0 hc1 hc2 hc3
           go_wp2
           refine wp_region_acts 5 (fun w'=>Below w0.heap.size w0 w'∧BoxAt w' w0.heap.size #[.bool b,.string s,.bool c,.string t] 25) (fun w w'=>Below w.heap.size w w') (fun i w v=>match i with
             | 0=>v=.agg #[.bool b,.string s,.bool c,.string t]
             | 1=>∃ g,v=.pointer (some ⟨g,0,none⟩)∧RatAt w g 0 q0
             | 2=>∃ p s' t',v=.agg #[.bool p,.string s',.bool false,.string t']∧Hid (p=decide (q0.num<0))∧Hid (s'=mag q0.num.natAbs)∧Hid (t'=mag q0.den)
             | 3=>v=.agg #[.bool b,.string s,.bool c,.string t]
             | _=>∃ r,v=.bool r∧Hid (r=true↔IsFrac (.agg #[.bool b,.string s,.bool c,.string t]))) (by kernel_rfl) (by kernel_rfl) (by kernel_rfl) ⟨HW5.out.drew,HX5.out⟩ (fun _ _=>(Below.refl _ _)) ?_ ⟨?_,?_,?_,?_,?_,trivial⟩ ?_
           · intro i w1 w2 v hC hC2 hE hV
             match i with
             | 0=>exact hV
             | 1=>obtain ⟨g,e,h⟩:=hV; exact ⟨g,e,h.on hE⟩
             | 2=>exact hV
             | 3=>exact hV
             | _+4=>exact hV
           · intro a' w' hag hC hd K hK
             have e1:a'.tmps.getD 1 undef=.pointer (some ⟨w0.heap.size,0,none⟩):=hag 1 rfl
             have hc0:=hC.2.cell 0 (.bool b) rfl
             have hc1:=hC.2.cell 1 (.string s) rfl
             have hc2:=hC.2.cell 2 (.bool c) rfl
             have hc3:=hC.2.cell 3 (.string t) rfl
             have HK:=Lib.hid (hK (.agg #[.bool b,.string s,.bool c,.string t]) _ hC (Below.refl _ _) rfl)
             clear hK hC
             go_step
             exact HK.out
           · intro a' w' hag hC hd K hK
             have e31:a'.tmps.getD 31 undef=.agg #[.bool b,.string s,.bool c,.string t]:=hd.1
             go_step
             refine (rat_any b c s t (Nat.le_trans H3.out (by decide)) (Nat.le_trans H4.out (by decide)) H0.out K1.out K2.out).mono ?_
             rintro e w2 ⟨g,rfl,hg,h1,h2⟩
             exact hK _ _ ⟨hC.1.trans (h2.mono hC.1.size),hC.2.on h2⟩ h2 ⟨_,rfl,by rw [HQ0.out]; exact h1⟩
           · intro a' w' hag hC hd K hK
             obtain ⟨g32,e32,h32⟩:=hd.1
             have e32:a'.tmps.getD 32 undef=.pointer (some ⟨g32,0,none⟩):=e32
             go_step
             refine (told_any h32 KQ.out).mono ?_
             rintro e w2 ⟨p,s',t',rfl,h1,h2,h3,hb⟩
             exact hK _ _ ⟨hC.1.trans (hb.mono hC.1.size),hC.2.on hb⟩ hb ⟨p,s',t',rfl,h1,h2,h3⟩
           · intro a' w' hag hC hd K hK
             have e1:a'.tmps.getD 1 undef=.pointer (some ⟨w0.heap.size,0,none⟩):=hag 1 rfl
             have hc0:=hC.2.cell 0 (.bool b) rfl
             have hc1:=hC.2.cell 1 (.string s) rfl
             have hc2:=hC.2.cell 2 (.bool c) rfl
             have hc3:=hC.2.cell 3 (.string t) rfl
             have HK:=Lib.hid (hK (.agg #[.bool b,.string s,.bool c,.string t]) _ hC (Below.refl _ _) rfl)
             clear hK hC
             go_step
             exact HK.out
           · intro a' w' hag hC hd K hK
             obtain ⟨p33,s33,t33,e33,hp33,hs33,ht33⟩:=hd.1
             have e33:a'.tmps.getD 33 undef=.agg #[.bool p33,.string s33,.bool false,.string t33]:=e33
             have e34:a'.tmps.getD 34 undef=.agg #[.bool b,.string s,.bool c,.string t]:=hd.2.1
             have key:=may_key HQ0.out hp33.out hs33.out ht33.out H3.out H4.out
             have HK:=Lib.hid (hK _ _ hC (Below.refl _ _) ⟨_,rfl,key⟩)
             clear hK hC key
             go_step
             rw [eqtree]
             generalize ((p33==b&&s33.toList==s.toList)&&(false==c&&t33.toList==t.toList))=r at HK ⊢
             cases r
             · exact HK.out
             · exact HK.out
           · intro u w' hC hall
             obtain ⟨u0,u1,u2,u3,u4,_⟩:=hall
             have u0:u 0=.agg #[.bool b,.string s,.bool c,.string t]:=u0
             have u3:u 3=.agg #[.bool b,.string s,.bool c,.string t]:=u3
             obtain ⟨r35,eu4,h35⟩:=u4
             have u4:u 4=.bool r35:=eu4
             simp only [fillR,List.take_succ_cons,List.take_zero,Act.put,List.setIfInBounds_toArray,List.set_cons_succ,List.set_cons_zero,Nat.zero_add,Nat.reduceAdd,u0,u3,u4]
             clear u0 u3 u4
             have HC:=Lib.hid hC.1
             clear hC
             go_wp2
             go_ret
             exact ⟨_,rfl,h35.out,HC.out⟩
         · obtain ⟨k5,hk5⟩:∃ k5,k5=(numOf c t).sign:=⟨_,rfl⟩
           have hk0:k5≤0:=by rw [hk5]; exact Int.sign_nonpos_iff.2 (by omega)
           have HK5:=Lib.hid hk5
           have H5:=Lib.hid h5
           clear hk5 h5 hn
           go_wp2_with fail
           refine (WSign_any c t HT.out).mono ?_
           rintro e w5 ⟨k,rfl,hk,hb⟩
           obtain rfl:k=k5:=hk.elim (fun h=>h.2.trans HK5.out.symm) (fun h=>absurd H2.out h.1)
           clear hk
           have HX5:=Lib.hid (HX4.out.on hb)
           have HW5:=Lib.hid (HW4.out.trans (hb.mono HW4.out.size))
           clear hb hc0 hc1 hc2 hc3
           have hc0:=HX5.out.cell 0 (.bool b) rfl
           have hc1:=HX5.out.cell 1 (.string s) rfl
           have hc2:=HX5.out.cell 2 (.bool c) rfl
           have hc3:=HX5.out.cell 3 (.string t) rfl
           go_wp2
           go_ret
           exact ⟨false,rfl,⟨fun h=>Bool.noConfusion h,fun h=>absurd (isFrac_parts h).2.2.2.2.1 (Int.not_lt.2 H5.out)⟩,HW5.out⟩
       · have H4:=Lib.hid h4
         go_wp2_with fail
         refine (shortF_any c t false (by simpa using h4)).mono ?_
         rintro e w4 ⟨rfl,hb⟩
         have HX4:=Lib.hid (HX3.out.on hb)
         have HW4:=Lib.hid (HW3.out.trans (hb.mono HW3.out.size))
         clear hb hc0 hc1 hc2 hc3
         have hc0:=HX4.out.cell 0 (.bool b) rfl
         have hc1:=HX4.out.cell 1 (.string s) rfl
         have hc2:=HX4.out.cell 2 (.bool c) rfl
         have hc3:=HX4.out.cell 3 (.string t) rfl
         clear h4
         go_wp2
         go_ret
         exact ⟨false,rfl,⟨fun h=>Bool.noConfusion h,fun h=>absurd (isFrac_parts h).2.2.2.1 H4.out⟩,HW4.out⟩
     · have H3:=Lib.hid h3
       go_wp2_with fail
       refine (shortF_any b s false (by simpa using h3)).mono ?_
       rintro e w3 ⟨rfl,hb⟩
       have HX3:=Lib.hid (HX2.out.on hb)
       have HW3:=Lib.hid (HW2.out.trans (hb.mono HW2.out.size))
       clear hb hc0 hc1 hc2 hc3
       have hc0:=HX3.out.cell 0 (.bool b) rfl
       have hc1:=HX3.out.cell 1 (.string s) rfl
       have hc2:=HX3.out.cell 2 (.bool c) rfl
       have hc3:=HX3.out.cell 3 (.string t) rfl
       clear h3
       go_wp2
       go_ret
       exact ⟨false,rfl,⟨fun h=>Bool.noConfusion h,fun h=>absurd (isFrac_parts h).2.2.1 H3.out⟩,HW3.out⟩
   · have H2:=Lib.hid h2
     clear h2
     go_wp2_with fail
     refine (Check_any c t HT.out).mono ?_
     rintro e w2 ⟨k,rfl,hk,hb⟩
     obtain rfl:k=2:=hk.elim (fun h=>absurd h.2 H2.out) (fun h=>h.1)
     clear hk
     have HX2:=Lib.hid (HX1.out.on hb)
     have HW2:=Lib.hid (HW1.out.trans (hb.mono HW1.out.size))
     clear hb hc0 hc1 hc2 hc3
     have hc0:=HX2.out.cell 0 (.bool b) rfl
     have hc1:=HX2.out.cell 1 (.string s) rfl
     have hc2:=HX2.out.cell 2 (.bool c) rfl
     have hc3:=HX2.out.cell 3 (.string t) rfl
     go_wp2
     go_ret
     exact ⟨false,rfl,⟨fun h=>Bool.noConfusion h,fun h=>absurd (isFrac_parts h).2.1 H2.out⟩,HW2.out⟩
 · have H1:=Lib.hid h1
   clear h1
   go_wp2_with fail
   refine (Check_any b s HS.out).mono ?_
   rintro e w1 ⟨k,rfl,hk,hb⟩
   obtain rfl:k=2:=hk.elim (fun h=>absurd h.2 H1.out) (fun h=>h.1)
   clear hk
   have HX1:=Lib.hid (HX0.out.on hb)
   have HW1:=Lib.hid (HW0.out.trans (hb.mono HW0.out.size))
   clear hb hc0 hc1 hc2 hc3
   have hc0:=HX1.out.cell 0 (.bool b) rfl
   have hc1:=HX1.out.cell 1 (.string s) rfl
   have hc2:=HX1.out.cell 2 (.bool c) rfl
   have hc3:=HX1.out.cell 3 (.string t) rfl
   go_wp2
   go_ret
   exact ⟨false,rfl,⟨fun h=>Bool.noConfusion h,fun h=>absurd (isFrac_parts h).1 H1.out⟩,HW1.out⟩
end Go.Proofs.YthkpghhoffihmaaGreatDoor
end
section
namespace Go.Proofs.YthkpghhoffihmaaGreatDoor
open Go Go.RowKit
theorem Row.set {w:World} {base g cap n:Nat} {xs:List Nat} (h:Row w base (.slice (some ⟨g,0,none⟩) n cap) xs) (i x:Nat) (m:Int) (hi:i<xs.length) (hx:x<4294967296) (hm:m=x):Row (w.setCell ⟨g,i,none⟩ (.int .u32 m)) base (.slice (some ⟨g,0,none⟩) n cap) (xs.set i x):=by
 subst hm
 obtain ⟨hw,hlen,h2⟩:=h
 rcases h2 with ⟨e,_⟩ | ⟨g',cap',cur,e,hg,hh,hc,hm,hcs,ht⟩
 · cases e
 · injection e with e1 e2 e3
   injection e1 with e1
   injection e1 with e1
   subst e1 e3
   refine ⟨hw.set i x hx,by simp,.inr ⟨g,cap,cur.setIfInBounds i (.int .u32 (x:Int)),by rw [List.length_set,e2],hg,by simp [World.setCell,Array.getElem?_modify,hh],by rw [List.length_set]; exact hc,hm,by simpa using hcs,?_⟩⟩
   rw [List.length_set,Array.toList_setIfInBounds,List.take_set,ht,List.map_set]
   rfl
end Go.Proofs.YthkpghhoffihmaaGreatDoor
end
section
namespace Go.Proofs.YthkpghhoffihmaaGreatDoor
open Go
def Dg (x:Nat):Prop:=48≤x∧x<58
def dval (xs:List Nat):Nat:=xs.foldl (fun a x=>10*a+(x-48)) 0
theorem dval_nil:dval []=0:=rfl
theorem dval_snoc (xs:List Nat) (x:Nat):dval (xs++[x])=10*dval xs+(x-48):=by simp [dval,List.foldl_append]
theorem dval_dd (n:Nat):dval (dd n).reverse=n:=by
 induction n using Nat.strongRecOn with
 | ind n ih =>
  rcases Nat.eq_zero_or_pos n with h | h
  · subst h
    rw [dd_zero]
    rfl
  · rw [dd_pos n h,List.reverse_cons,dval_snoc,ih (n/10) (by omega)]
    omega
theorem snoc_ind {P:List Nat→Prop} (h0:P []) (h1:∀ xs x,P xs→P (xs++[x])) (xs:List Nat):P xs:=by
 have h:∀ ys:List Nat,P ys.reverse:=fun ys=>by
  induction ys with
  | nil=>exact h0
  | cons y ys ih =>
   rw [List.reverse_cons]
   exact h1 _ _ ih
 have:=h xs.reverse
 rwa [List.reverse_reverse] at this
theorem dd_dval (xs:List Nat):(∀ x∈xs,Dg x)→xs.head?≠some 48→dd (dval xs)=xs.reverse:=by
 refine snoc_ind (P:=fun xs=>(∀ x∈xs,Dg x)→xs.head?≠some 48→dd (dval xs)=xs.reverse) ?_ ?_ xs
 · intro _ _
   rw [dval_nil,dd_zero]
   rfl
 · intro xs x ih h h0
   have hx:Dg x:=h x (by simp)
   have hxs:∀ y∈xs,Dg y:=fun y hy=>h y (by simp [hy])
   have hx1:=hx.1
   have hx2:=hx.2
   rw [dval_snoc,List.reverse_append]
   cases xs with
   | nil =>
    have hne:x≠48:=fun e=>h0 (by simp [e])
    rw [dval_nil,dd_pos _ (by omega),show (10*0+(x-48))/10=0 by omega,dd_zero,show 48+(10*0+(x-48)) % 10=x by omega]
    rfl
   | cons y ys =>
    have k:=ih hxs (fun e=>h0 (by simpa using e))
    have hp:0<dval (y::ys):=by
     rcases Nat.eq_zero_or_pos (dval (y::ys)) with e | e
     · have:=(dd_nil_iff _).2 e
       rw [k] at this
       simp at this
     · exact e
    rw [dd_pos _ (by omega),show (10*dval (y::ys)+(x-48))/10=dval (y::ys) by omega,k,show 48+(10*dval (y::ys)+(x-48)) % 10=x by omega]
    rfl
def DgT (xs:List Nat):Prop:=xs≠[]∧(∀ x∈xs,Dg x)∧(xs.head?=some 48→xs.length=1)
theorem DgT.pos {xs:List Nat} (h:DgT xs) (h0:xs.head?≠some 48):0<dval xs:=by
 rcases Nat.eq_zero_or_pos (dval xs) with e | e
 · have:=dd_dval xs h.2.1 h0
   rw [(dd_nil_iff _).2 e] at this
   exact absurd (List.reverse_eq_nil_iff.1 this.symm) h.1
 · exact e
theorem txt_nat {xs:List Nat} (h:DgT xs):txt (dval xs:Int)=xs:=by
 by_cases h0:xs.head?=some 48
 · have hl:=h.2.2 h0
   match xs,hl,h0 with
   | [x],_,h0 =>
    have e:x=48:=by simpa using h0
    subst e
    rfl
 · have hp:=h.pos h0
   unfold txt
   rw [if_neg (by omega),if_neg (by omega),Int.natAbs_natCast,dd_dval xs h.2.1 h0,List.append_nil,List.reverse_reverse]
theorem txt_neg {xs:List Nat} (h:DgT xs) (h0:xs.head?≠some 48):txt (-(dval xs:Int))=45::xs:=by
 have hp:=h.pos h0
 unfold txt
 rw [if_neg (by omega),if_pos (by omega),Int.natAbs_neg,Int.natAbs_natCast,dd_dval xs h.2.1 h0,List.reverse_append,List.reverse_reverse]
 rfl
theorem dd_head (n:Nat):(dd n).reverse.head?≠some 48:=by
 induction n using Nat.strongRecOn with
 | ind n ih =>
  rcases Nat.eq_zero_or_pos n with h | h
  · subst h
    rw [dd_zero]
    simp
  · rw [dd_pos n h,List.reverse_cons]
    rcases Nat.eq_zero_or_pos (n/10) with h1 | h1
    · rw [h1,dd_zero]
      simp
      omega
    · have k:=ih (n/10) (by omega)
      have hne:dd (n/10)≠[]:=fun e=>by
       have:=(dd_nil_iff _).1 e
       omega
      have hr:(dd (n/10)).reverse≠[]:=fun e=>hne (List.reverse_eq_nil_iff.1 e)
      match hq:(dd (n/10)).reverse,hr with
      | y::ys,_ =>
       rw [hq] at k
       simpa using k
theorem dd_dgt {n:Nat} (h:0<n):DgT (dd n).reverse:=by
 refine ⟨fun e=>?_,fun x hx=>dd_digit n x (List.mem_reverse.1 hx),fun e=>absurd e (dd_head n)⟩
 have:=(dd_nil_iff n).1 (List.reverse_eq_nil_iff.1 e)
 omega
theorem txt_is (n:Int):(0≤n∧DgT (txt n)∧(dval (txt n):Int)=n)∨(n<0∧∃ xs,txt n=45::xs∧DgT xs∧xs.head?≠some 48 ∧ -(dval xs:Int)=n):=by
 by_cases h0:n=0
 · subst h0
   refine .inl ⟨by omega,⟨by decide,?_,fun _=>rfl⟩,rfl⟩
   intro x hx
   have:x=48:=by simpa [txt] using hx
   subst this
   exact ⟨by decide,by decide⟩
 by_cases h:n<0
 · refine .inr ⟨h,(dd n.natAbs).reverse,?_,dd_dgt (by omega),dd_head _,?_⟩
   · unfold txt
     rw [if_neg h0,if_pos h,List.reverse_append]
     rfl
   · rw [dval_dd]
     omega
 · have e:txt n=(dd n.natAbs).reverse:=by
    unfold txt
    rw [if_neg h0,if_neg h,List.append_nil]
   refine .inl ⟨by omega,?_,?_⟩
   · rw [e]
     exact dd_dgt (by omega)
   · rw [e,dval_dd]
     omega
inductive Rd (xs:List Nat):Prop where
 | nat (h:DgT xs)
 | neg (ys:List Nat) (e:xs=45::ys) (h:DgT ys) (h0:ys.head?≠some 48)
def rdN (xs:List Nat):Int:=if xs.head?=some 45 then -(dval xs.tail:Int) else dval xs
theorem Rd.txt {xs:List Nat} (h:Rd xs):txt (rdN xs)=xs:=by
 cases h with
 | nat h =>
  have hne:xs.head?≠some 45:=fun e=>by
   cases xs with
   | nil=>cases e
   | cons x r =>
    have e2:x=45:=by simpa using e
    have:=(h.2.1 x (by simp)).1
    omega
  unfold rdN
  rw [if_neg hne]
  exact txt_nat h
 | neg ys e h h0 =>
  subst e
  unfold rdN
  rw [if_pos (show (45::_:List Nat).head?=some 45 from rfl)]
  exact txt_neg h h0
theorem rd_txt (n:Int):Rd (Go.Proofs.YthkpghhoffihmaaGreatDoor.txt n)∧rdN (Go.Proofs.YthkpghhoffihmaaGreatDoor.txt n)=n:=by
 rcases txt_is n with ⟨h1,h2,h3⟩ | ⟨h1,xs,h2,h3,h4,h5⟩
 · have hR:Rd (Go.Proofs.YthkpghhoffihmaaGreatDoor.txt n):=.nat h2
   refine ⟨hR,?_⟩
   have hne:(Go.Proofs.YthkpghhoffihmaaGreatDoor.txt n).head?≠some 45:=fun e=>by
    match hq:Go.Proofs.YthkpghhoffihmaaGreatDoor.txt n,e with
    | x::r,e =>
     have e2:x=45:=by simpa using e
     have:=(h2.2.1 x (by rw [hq]; simp)).1
     omega
   unfold rdN
   rw [if_neg hne]
   exact h3
 · rw [h2]
   refine ⟨.neg xs rfl h3 h4,?_⟩
   unfold rdN
   rw [if_pos (show (45::_:List Nat).head?=some 45 from rfl)]
   exact h5
theorem dval_append (xs ys:List Nat):dval (xs++ys)=dval xs*10^ys.length+dval ys:=by
 refine snoc_ind (P:=fun ys=>dval (xs++ys)=dval xs*10^ys.length+dval ys) ?_ ?_ ys
 · rw [List.append_nil,dval_nil]
   simp
 · intro ys y ih
   rw [← List.append_assoc,dval_snoc,ih,dval_snoc,List.length_append,List.length_cons,List.length_nil,Nat.pow_succ,← Nat.mul_assoc,Nat.mul_add,Nat.mul_comm 10 (dval xs*10^ys.length)]
   omega
theorem dval_lt (xs:List Nat):(∀ x∈xs,Dg x)→dval xs<10^xs.length:=by
 refine snoc_ind (P:=fun xs=>(∀ x∈xs,Dg x)→dval xs<10^xs.length) ?_ ?_ xs
 · intro _
   rw [dval_nil]
   decide
 · intro xs x ih h
   have h1:=ih fun y hy=>h y (by simp [hy])
   have h2:Dg x:=h x (by simp)
   have h3:=h2.2
   rw [dval_snoc,List.length_append,List.length_cons,List.length_nil,Nat.pow_succ]
   omega
theorem mulw_val (xs ys:List Nat) (k m c a t:Nat) (hy:ys.length=k) (hv:val ys+4294967296^k*c=val (xs.take k)*m+a) (ht:t=c+xs.getD k 0*m) :
  val (ys++[t % 4294967296])+4294967296^(k+1)*(t/4294967296)=val (xs.take (k+1))*m+a:=by
 rw [val_snoc,hy,val_take_step,Nat.add_mul]
 have h1:4294967296^k*(t % 4294967296)+4294967296^(k+1)*(t/4294967296)=4294967296^k*t:=by
  rw [Nat.pow_succ,Nat.mul_assoc,← Nat.mul_add,Nat.mod_add_div]
 rw [ht,Nat.mul_add,← Nat.mul_assoc] at h1
 rw [← ht] at h1
 omega
theorem mulw_end (xs ys:List Nat) (m c a:Nat) (hl:ys.length=xs.length) (hv:val ys+4294967296^ys.length*c=val (xs.take xs.length)*m+a):val (ys++if 0<c then [c] else [])=val xs*m+a:=by
 rw [val_take_all _ _ (Nat.le_refl _)] at hv
 by_cases h:0<c
 · rw [if_pos h,val_snoc]
   exact hv
 · have h0:c=0:=by omega
   subst h0
   rw [if_neg h,List.append_nil]
   omega
theorem rd_neg (ys:List Nat):Rd (45::ys)↔DgT ys∧ys.head?≠some 48:=by
 constructor
 · rintro (h | ⟨zs,e,h,h0⟩)
   · have:=(h.2.1 45 (by simp)).1
     omega
   · injection e with _ e
     subst e
     exact ⟨h,h0⟩
 · rintro ⟨h,h0⟩
   exact .neg ys rfl h h0
theorem rd_nat {xs:List Nat} (h:xs.head?≠some 45):Rd xs↔DgT xs:=by
 constructor
 · rintro (h | ⟨zs,e,_,_⟩)
   · exact h
   · subst e
     exact absurd rfl h
 · exact fun h=>.nat h
theorem dgt_iff (xs:List Nat):DgT xs↔xs≠[]∧(∀ j,j<xs.length→Dg (xs.getD j 0))∧¬ (xs.getD 0 0=48∧1<xs.length):=by
 have hd:(∀ x∈xs,Dg x)↔∀ j,j<xs.length→Dg (xs.getD j 0):=by
  constructor
  · intro h j hj
    rw [List.getD_eq_getElem?_getD,List.getElem?_eq_getElem hj]
    exact h _ (List.getElem_mem hj)
  · intro h x hx
    obtain ⟨j,hj,e⟩:=List.getElem_of_mem hx
    have:=h j hj
    rw [List.getD_eq_getElem?_getD,List.getElem?_eq_getElem hj,e] at this
    exact this
 unfold DgT
 rw [hd]
 cases xs with
 | nil=>simp
 | cons x r =>
  have e1:(x::r).head?=some 48↔x=48:=by simp
  have e2:(x::r).getD 0 0=x:=rfl
  rw [e1,e2]
  refine and_congr_right fun _=>and_congr_right fun _=>⟨fun h k=>?_,fun h k=>?_⟩
  · have:=h k.1
    omega
  · have hl:0<(x::r).length:=by simp
    have:¬ 1<(x::r).length:=fun e=>h ⟨k,e⟩
    omega
theorem dval_take (xs:List Nat) (k:Nat) (h:k<xs.length):dval (xs.take (k+1))=10*dval (xs.take k)+(xs.getD k 0-48):=by
 have e:xs.take (k+1)=xs.take k++[xs.getD k 0]:=by
  rw [List.getD_eq_getElem?_getD,List.getElem?_eq_getElem h]
  exact List.take_succ_eq_append_getElem h
 rw [e,dval_snoc]
def cutA:List Nat→List Nat
 | []=>[]
 | x::r=>if x=47 then [] else x::cutA r
def cutB:List Nat→Option (List Nat)
 | []=>none
 | x::r=>if x=47 then some r else cutB r
theorem cut_join:∀ xs:List Nat,(cutB xs=none∧cutA xs=xs)∨∃ r,cutB xs=some r∧xs=cutA xs++47::r
 | []=>.inl ⟨rfl,rfl⟩
 | x::r=>by
  by_cases h:x=47
  · subst h
    exact .inr ⟨r,by unfold cutB; rw [if_pos rfl],by unfold cutA; rw [if_pos rfl]; rfl⟩
  · rcases cut_join r with ⟨h1,h2⟩ | ⟨t,h1,h2⟩
    · exact .inl ⟨by unfold cutB; rw [if_neg h]; exact h1,by unfold cutA; rw [if_neg h,h2]⟩
    · refine .inr ⟨t,by unfold cutB; rw [if_neg h]; exact h1,?_⟩
      unfold cutA
      rw [if_neg h,List.cons_append,← h2]
theorem cutA_all {xs:List Nat} (h:47 ∉ xs):cutA xs=xs∧cutB xs=none:=by
 rcases cut_join xs with ⟨h1,h2⟩ | ⟨r,h1,h2⟩
 · exact ⟨h2,h1⟩
 · exact absurd (by rw [h2]; simp) h
theorem cut_at (xs r:List Nat) (h:47 ∉ xs):cutA (xs++47::r)=xs∧cutB (xs++47::r)=some r:=by
 induction xs with
 | nil=>exact ⟨by show cutA (47::r)=[]; unfold cutA; rw [if_pos rfl],by show cutB (47::r)=some r; unfold cutB; rw [if_pos rfl]⟩
 | cons x xs ih =>
  have hx:x≠47:=fun e=>h (by simp [e])
  obtain ⟨h1,h2⟩:=ih (fun k=>h (List.mem_cons_of_mem _ k))
  refine ⟨?_,?_⟩
  · show cutA (x::(xs++47::r))=x::xs
    unfold cutA
    rw [if_neg hx,h1]
  · show cutB (x::(xs++47::r))=some r
    unfold cutB
    rw [if_neg hx,h2]
theorem txt_no (n:Int):47 ∉ txt n:=fun h=>by
 rcases txt_is n with ⟨_,h2,_⟩ | ⟨_,xs,h2,h3,_,_⟩
 · have:=(h2.2.1 47 h).1
   omega
 · rw [h2] at h
   rcases List.mem_cons.1 h with e | e
   · cases e
   · have:=(h3.2.1 47 e).1
     omega
def tqL (x:Rat):List Nat:=if x.den=1 then txt x.num else txt x.num++47::txt (x.den:Int)
theorem tq_one {x:Rat} (h:x.den=1):cutA (tqL x)=txt x.num∧cutB (tqL x)=none:=by
 unfold tqL
 rw [if_pos h]
 exact cutA_all (txt_no _)
theorem tq_two {x:Rat} (h:x.den≠1):cutA (tqL x)=txt x.num∧cutB (tqL x)=some (txt (x.den:Int)):=by
 unfold tqL
 rw [if_neg h]
 exact cut_at _ _ (txt_no _)
theorem tq_read (x:Rat):Rd (cutA (tqL x))∧rdN (cutA (tqL x))=x.num∧((x.den=1∧cutB (tqL x)=none)∨(x.den≠1∧∃ r,cutB (tqL x)=some r∧Rd r∧rdN r=(x.den:Int))):=by
 by_cases h:x.den=1
 · obtain ⟨h1,h2⟩:=tq_one h
   rw [h1]
   exact ⟨(rd_txt _).1,(rd_txt _).2,.inl ⟨h,h2⟩⟩
 · obtain ⟨h1,h2⟩:=tq_two h
   rw [h1]
   exact ⟨(rd_txt _).1,(rd_txt _).2,.inr ⟨h,_,h2,(rd_txt _).1,(rd_txt _).2⟩⟩
theorem tq_inj {x y:Rat} (h:tqL x=tqL y):x=y:=by
 obtain ⟨_,h1,h2⟩:=tq_read x
 obtain ⟨_,k1,k2⟩:=tq_read y
 rw [h] at h1 h2
 have hn:x.num=y.num:=h1.symm.trans k1
 have hd:x.den=y.den:=by
  rcases h2 with ⟨a,b⟩ | ⟨a,r,b,_,c⟩<;>rcases k2 with ⟨a',b'⟩ | ⟨a',r',b',_,c'⟩
  · rw [a,a']
  · rw [b] at b'
    cases b'
  · rw [b] at b'
    cases b'
  · rw [b] at b'
    cases b'
    have:=c.symm.trans c'
    omega
 exact Rat.ext hn hd
def lastAt (b:List Nat):Nat→Nat
 | 0=>0
 | k+1=>if b.getD (k+1) 0=43∨b.getD (k+1) 0=45 then k+1 else lastAt b k
theorem lastAt_hit (b:List Nat) {i:Nat} (hi:0<i) (hs:b.getD i 0=43∨b.getD i 0=45):∀ k,i≤k→(∀ j,i<j→j≤k→¬ (b.getD j 0=43∨b.getD j 0=45))→lastAt b k=i
 | 0,h,_=>by omega
 | k+1,h,hn=>by
  unfold lastAt
  by_cases e:i=k+1
  · subst e
    rw [if_pos hs]
  · rw [if_neg (hn (k+1) (by omega) (Nat.le_refl _))]
    exact lastAt_hit b hi hs k (by omega) fun j h1 h2=>hn j h1 (by omega)
theorem lastAt_none (b:List Nat):∀ k,(∀ j,0<j→j≤k→¬ (b.getD j 0=43∨b.getD j 0=45))→lastAt b k=0
 | 0,_=>rfl
 | k+1,hn=>by
  unfold lastAt
  rw [if_neg (hn (k+1) (Nat.succ_pos k) (Nat.le_refl _))]
  exact lastAt_none b k fun j h1 h2=>hn j h1 (by omega)
def Uns (xs:List Nat):Prop:=∀ x∈xs.tail,¬ (x=43∨x=45)
theorem dgt_uns {xs:List Nat} (h:∀ x∈xs,Dg x):∀ x∈xs,¬ (x=43∨x=45):=fun x hx k=>by
 have:=(h x hx).1
 omega
theorem txt_uns (n:Int):Uns (txt n):=fun x hx=>by
 rcases txt_is n with ⟨_,h2,_⟩ | ⟨_,xs,h2,h3,_,_⟩
 · exact dgt_uns h2.2.1 x (List.mem_of_mem_tail hx)
 · rw [h2] at hx
   exact dgt_uns h3.2.1 x hx
theorem txt_pos {n:Int} (h:0≤n):∀ x∈txt n,Dg x:=by
 rcases txt_is n with ⟨_,h2,_⟩ | ⟨h1,_⟩
 · exact h2.2.1
 · omega
theorem txt_ne (n:Int):txt n≠[]:=by
 rcases txt_is n with ⟨_,h2,_⟩ | ⟨_,xs,h2,_⟩
 · exact h2.1
 · rw [h2]
   intro e
   cases e
theorem tq_ne (x:Rat):tqL x≠[]:=by
 unfold tqL
 split
 · exact txt_ne _
 · intro e
   have:=txt_ne x.num
   cases h:txt x.num with
   | nil=>exact this h
   | cons a r=>rw [h] at e; cases e
theorem tq_uns (x:Rat):Uns (tqL x):=by
 unfold tqL
 split
 · exact txt_uns _
 · intro y hy
   have e:(txt x.num++47::txt (x.den:Int)).tail=(txt x.num).tail++47::txt (x.den:Int):=by
    cases h:txt x.num with
    | nil=>exact absurd h (txt_ne _)
    | cons a r=>rfl
   rw [e] at hy
   rcases List.mem_append.1 hy with h | h
   · exact txt_uns _ y h
   · rcases List.mem_cons.1 h with h | h
     · omega
     · exact dgt_uns (txt_pos (by omega)) y h
theorem txt_last (n:Int):∃ x,(txt n).getLast?=some x∧Dg x:=by
 have fin:∀ xs:List Nat,DgT xs→∃ x,xs.getLast?=some x∧Dg x:=fun xs h=>by
  cases hq:xs.getLast? with
  | none=>exact absurd (List.getLast?_eq_none_iff.1 hq) h.1
  | some x=>exact ⟨x,rfl,h.2.1 x (List.mem_of_getLast? hq)⟩
 rcases txt_is n with ⟨_,h2,_⟩ | ⟨_,xs,h2,h3,_,_⟩
 · exact fin _ h2
 · obtain ⟨x,h4,h5⟩:=fin xs h3
   refine ⟨x,?_,h5⟩
   rw [h2,List.getLast?_cons,h4]
   rfl
theorem tq_last (x:Rat):∃ y,(tqL x).getLast?=some y∧Dg y:=by
 unfold tqL
 split
 · exact txt_last _
 · obtain ⟨y,h1,h2⟩:=txt_last (x.den:Int)
   refine ⟨y,?_,h2⟩
   rw [List.getLast?_append,List.getLast?_cons,h1]
   rfl
def tgL (re im:Rat):List Nat:=if im=0 then tqL re else if re=0 then tqL im++[105] else if im<0 then tqL re++tqL im++[105] else tqL re++43::tqL im++[105]
def gzRe (s:List Nat):List Nat:=if s.getLast?=some 105 then (if lastAt s.dropLast (s.dropLast.length-1)=0 then [48] else s.dropLast.take (lastAt s.dropLast (s.dropLast.length-1))) else s
def gzIm (s:List Nat):List Nat:=if s.getLast?=some 105 then (if lastAt s.dropLast (s.dropLast.length-1)=0 then s.dropLast else if s.dropLast.getD (lastAt s.dropLast (s.dropLast.length-1)) 0=43 then s.dropLast.drop (lastAt s.dropLast (s.dropLast.length-1)+1) else s.dropLast.drop (lastAt s.dropLast (s.dropLast.length-1))) else [48]
theorem getD_app (a b:List Nat) (j:Nat):(a++b).getD (a.length+j) 0=b.getD j 0:=by
 rw [List.getD_eq_getElem?_getD,List.getD_eq_getElem?_getD,List.getElem?_append_right (by omega)]
 congr 2
 omega
theorem getD_mem {xs:List Nat} {j:Nat} (h:j<xs.length):xs.getD j 0∈xs:=by
 rw [List.getD_eq_getElem?_getD,List.getElem?_eq_getElem h]
 exact List.getElem_mem h
theorem uns_get {xs:List Nat} (h:Uns xs) {j:Nat} (h0:0<j) (h1:j<xs.length):¬ (xs.getD j 0=43∨xs.getD j 0=45):=by
 cases xs with
 | nil=>simp at h1
 | cons a r =>
  obtain ⟨k,rfl⟩:∃ k,j=k+1:=⟨j-1,by omega⟩
  have:(a::r).getD (k+1) 0=r.getD k 0:=rfl
  rw [this]
  exact h _ (getD_mem (by simpa using h1))
theorem gz_snoc (b:List Nat):(b++[105]).getLast?=some 105∧(b++[105]).dropLast=b:=⟨by simp,by simp⟩
theorem tq_zero:tqL 0=[48]:=by decide +kernel
theorem last_two (a c:List Nat) (ha:a≠[]) (hc:Uns c) (hs:c.getD 0 0=43∨c.getD 0 0=45) (hn:c≠[]):lastAt (a++c) ((a++c).length-1)=a.length:=by
 have hl:0<a.length:=List.length_pos_iff.2 ha
 have hcl:0<c.length:=List.length_pos_iff.2 hn
 refine lastAt_hit _ hl ?_ _ (by rw [List.length_append]; omega) fun j h1 h2=>?_
 · have:=getD_app a c 0
   rw [Nat.add_zero] at this
   rw [this]
   exact hs
 · obtain ⟨k,rfl⟩:∃ k,j=a.length+k:=⟨j-a.length,by omega⟩
   rw [getD_app]
   rw [List.length_append] at h2
   exact uns_get hc (by omega) (by omega)
theorem gz_two (a c:List Nat) (ha:a≠[]) (hc:Uns c) (hs:c.getD 0 0=43∨c.getD 0 0=45) (hn:c≠[]) :
  gzRe (a++c++[105])=a∧gzIm (a++c++[105])=if c.getD 0 0=43 then c.drop 1 else c:=by
 obtain ⟨h1,h2⟩:=gz_snoc (a++c)
 have h3:=last_two a c ha hc hs hn
 have hl:a.length≠0:=by have:=List.length_pos_iff.2 ha; omega
 unfold gzRe gzIm
 rw [h1,h2,h3,if_pos rfl,if_pos rfl,if_neg hl,if_neg hl]
 have h4:=getD_app a c 0
 rw [Nat.add_zero] at h4
 rw [h4]
 refine ⟨by simp,?_⟩
 split
 · rw [← List.drop_drop,List.drop_left]
 · rw [List.drop_left]
theorem tq_head {x:Rat} (h:x<0):(tqL x).getD 0 0=45:=by
 have hn:x.num<0:=by
  by_cases k:x.num<0
  · exact k
  · exact absurd (Rat.num_nonneg.1 (Int.not_lt.1 k)) (Rat.not_le.2 h)
 rcases txt_is x.num with ⟨h1,_⟩ | ⟨_,xs,h2,_⟩
 · omega
 · unfold tqL
   split
   · rw [h2]
     rfl
   · rw [h2]
     rfl
theorem tg_read (re im:Rat):gzRe (tgL re im)=tqL re∧gzIm (tgL re im)=tqL im:=by
 by_cases h0:im=0
 · subst h0
   have e:tgL re 0=tqL re:=if_pos rfl
   rw [e]
   obtain ⟨y,h1,h2⟩:=tq_last re
   have hne:(tqL re).getLast?≠some 105:=fun k=>by
    rw [h1] at k
    injection k with k
    have:=h2.2
    omega
   unfold gzRe gzIm
   rw [if_neg hne,if_neg hne,tq_zero]
   exact ⟨rfl,rfl⟩
 by_cases h1:re=0
 · subst h1
   have e:tgL 0 im=tqL im++[105]:=by unfold tgL; rw [if_neg h0,if_pos rfl]
   rw [e]
   obtain ⟨k1,k2⟩:=gz_snoc (tqL im)
   have k3:lastAt (tqL im) ((tqL im).length-1)=0:=lastAt_none _ _ fun j j1 j2=>uns_get (tq_uns im) j1 (by have:=List.length_pos_iff.2 (tq_ne im); omega)
   unfold gzRe gzIm
   rw [k1,k2,k3,if_pos rfl,if_pos rfl,if_pos rfl,if_pos rfl,tq_zero]
   exact ⟨rfl,rfl⟩
 by_cases h2:im<0
 · have e:tgL re im=tqL re++tqL im++[105]:=by unfold tgL; rw [if_neg h0,if_neg h1,if_pos h2]
   rw [e]
   have hh:=tq_head h2
   obtain ⟨k1,k2⟩:=gz_two (tqL re) (tqL im) (tq_ne re) (tq_uns im) (.inr hh) (tq_ne im)
   refine ⟨k1,?_⟩
   rw [k2,hh,if_neg (by decide)]
 · have e:tgL re im=tqL re++(43::tqL im)++[105]:=by unfold tgL; rw [if_neg h0,if_neg h1,if_neg h2]
   rw [e]
   have hp:0≤im:=Rat.not_lt.1 h2
   have hu:Uns (43::tqL im):=fun x hx=>by
    have hx:x∈tqL im:=hx
    have hn:0≤im.num:=Rat.num_nonneg.2 hp
    unfold tqL at hx
    split at hx
    · exact dgt_uns (txt_pos hn) x hx
    · rcases List.mem_append.1 hx with h | h
      · exact dgt_uns (txt_pos hn) x h
      · rcases List.mem_cons.1 h with h | h
        · omega
        · exact dgt_uns (txt_pos (by omega)) x h
   obtain ⟨k1,k2⟩:=gz_two (tqL re) (43::tqL im) (tq_ne re) hu (.inl rfl) (by intro e; cases e)
   refine ⟨k1,?_⟩
   rw [k2]
   rfl
def splitL (c:Nat):List Nat→List (List Nat)
 | []=>[[]]
 | x::r=>if x=c then []::splitL c r else match splitL c r with
  | p::ps=>(x::p)::ps
  | []=>[[x]]
theorem split_ne (c:Nat) (xs:List Nat):splitL c xs≠[]:=by
 cases xs with
 | nil=>intro h; cases h
 | cons x r =>
  unfold splitL
  split
  · intro h; cases h
  · split
    · intro h; cases h
    · intro h; cases h
def bsN (s:ByteArray):List Nat:=(leS s).reverse
theorem strN_bs (s:ByteArray):strN (bsN s)=s:=strN_leS s
theorem B8_bs (s:ByteArray):B8 (bsN s):=(B8_leS s).reverse
theorem bs_strN {xs:List Nat} (h:B8 xs):bsN (strN xs)=xs:=by rw [bsN,leS_strN xs h,List.reverse_reverse]
theorem strN_inj {xs ys:List Nat} (hx:B8 xs) (hy:B8 ys) (h:strN xs=strN ys):xs=ys:=by rw [← bs_strN hx,h,bs_strN hy]
theorem strN_data (xs:List Nat):(strN xs).data.toList=xs.map UInt8.ofNat:=by simp [strN]
theorem strN_eqL {s:ByteArray} {xs:List Nat} (h:s.data.toList=xs.map UInt8.ofNat):s=strN xs:=by
 apply ByteArray.ext
 rw [← Array.toList_inj,h,strN_data]
theorem strN_app (xs ys:List Nat):strN xs++strN ys=strN (xs++ys):=by
 refine strN_eqL ?_
 rw [ByteArray.data_append,Array.toList_append,strN_data,strN_data,List.map_append]
theorem strN_ext (xs:List Nat) (a b:Nat):(strN xs).extract a b=strN ((xs.drop a).take (b-a)):=by
 refine strN_eqL ?_
 rw [Lib.extract_data,strN_data,List.map_take,List.map_drop]
theorem strN_at {xs:List Nat} (h8:B8 xs) {i:Nat} (h:i<(strN xs).size):((strN xs)[i]'h).toNat=xs.getD i 0:=by
 have h1:=Lib.data_getElem? (strN xs) i h
 have hl:i<xs.length:=by rwa [strN_size] at h
 rw [strN_data,List.getElem?_map,List.getElem?_eq_getElem hl] at h1
 have h2:UInt8.ofNat xs[i]=(strN xs)[i]'h:=by simpa using h1
 rw [← h2,getD_in hl]
 have:=h8 _ (List.getElem_mem hl)
 simp [UInt8.toNat_ofNat']
 omega
theorem B8.drop {xs:List Nat} (h:B8 xs) (k:Nat):B8 (xs.drop k):=fun y hy=>h y (List.mem_of_mem_drop hy)
theorem B8.app {xs ys:List Nat} (h:B8 xs) (k:B8 ys):B8 (xs++ys):=fun x hx=>(List.mem_append.1 hx).elim (h x) (k x)
def rdF (xs:List Nat):Nat:=if xs.head?=some 45 then 1 else 0
def rdBad (xs:List Nat) (j:Nat):Prop:=¬ Dg (xs.getD j 0)∨(xs.getD j 0=48∧j=rdF xs∧1<xs.length)
theorem rd_ref (xs:List Nat):Rd xs↔xs.drop (rdF xs)≠[]∧(∀ j,j<(xs.drop (rdF xs)).length→Dg ((xs.drop (rdF xs)).getD j 0))∧¬ ((xs.drop (rdF xs)).getD 0 0=48∧(xs.head?=some 45∨1<(xs.drop (rdF xs)).length)):=by
 by_cases h:xs.head?=some 45
 · obtain ⟨ys,rfl⟩:∃ ys,xs=45::ys:=by
    cases xs with
    | nil=>cases h
    | cons x r=>exact ⟨r,by rw [show x=45 by simpa using h]⟩
   have e:rdF (45::ys)=1:=rfl
   rw [e,rd_neg,dgt_iff,show (45::ys).drop 1=ys from rfl]
   have h2:ys≠[]→(ys.head?=some 48↔ys.getD 0 0=48):=by
    cases ys with
    | nil=>intro k; exact absurd rfl k
    | cons y r=>intro _; simp
   constructor
   · rintro ⟨⟨a,b,c⟩,d⟩
     exact ⟨a,b,fun k=>d ((h2 a).2 k.1)⟩
   · rintro ⟨a,b,c⟩
     exact ⟨⟨a,b,fun k=>c ⟨k.1,.inl h⟩⟩,fun k=>c ⟨(h2 a).1 k,.inl h⟩⟩
 · have e:rdF xs=0:=if_neg h
   rw [e,rd_nat h,dgt_iff,List.drop_zero]
   refine and_congr_right fun _=>and_congr_right fun _=>not_congr (and_congr_right fun _=>?_)
   exact ⟨.inr,fun k=>k.resolve_left h⟩
theorem getD_drop (xs:List Nat) (k j:Nat):(xs.drop k).getD j 0=xs.getD (k+j) 0:=by
 rw [List.getD_eq_getElem?_getD,List.getD_eq_getElem?_getD,List.getElem?_drop]
theorem rd_loop (xs:List Nat):Rd xs↔rdF xs<xs.length∧∀ j,rdF xs≤j→j<xs.length→¬ rdBad xs j:=by
 rw [rd_ref]
 have hl:(xs.drop (rdF xs)).length=xs.length-rdF xs:=List.length_drop ..
 have hne:xs.drop (rdF xs)≠[]↔rdF xs<xs.length:=by
  rw [← List.length_pos_iff,hl]
  omega
 rw [hne,hl]
 have hsz:xs.head?=some 45↔rdF xs=1:=by
  unfold rdF
  split
  · simp [*]
  · simp [*]
 have hf:rdF xs≤1:=by
  unfold rdF
  split<;>omega
 rw [hsz,getD_drop]
 constructor
 · rintro ⟨a,b,c⟩
   refine ⟨a,fun j h1 h2 h3=>?_⟩
   rcases h3 with h3 | ⟨h3,h4,h5⟩
   · have:=b (j-rdF xs) (by omega)
     rw [getD_drop,show rdF xs+(j-rdF xs)=j by omega] at this
     exact h3 this
   · refine c ⟨by rw [Nat.add_zero,← h4]; exact h3,?_⟩
     omega
 · rintro ⟨a,b⟩
   refine ⟨a,fun j hj=>?_,fun h=>?_⟩
   · rw [getD_drop]
     have:=b (rdF xs+j) (by omega) (by omega)
     exact Classical.byContradiction fun k=>this (.inl k)
   · refine b (rdF xs) (Nat.le_refl _) a (.inr ⟨by have:=h.1; rwa [Nat.add_zero] at this,rfl,?_⟩)
     have:=h.2
     omega
theorem rdN_ref (xs:List Nat):rdN xs=if xs.head?=some 45 then -(dval (xs.drop (rdF xs)):Int) else dval (xs.drop (rdF xs)):=by
 unfold rdN rdF
 split
 · rw [List.drop_one]
 · rfl
def dgS (xs:List Nat):List Nat:=if xs.head?=some 45∨xs.head?=some 43 then xs.drop 1 else xs
def SOk (xs:List Nat):Prop:=dgS xs≠[]∧∀ x∈dgS xs,Dg x
theorem mem_getD {xs:List Nat} (h:∀ j,j<xs.length→Dg (xs.getD j 0)):∀ x∈xs,Dg x:=fun x hx=>by
 obtain ⟨j,hj,e⟩:=List.getElem_of_mem hx
 have:=h j hj
 rwa [getD_in hj,e] at this
theorem rd_dgS {xs:List Nat} (h:Rd xs):dgS xs=xs.drop (rdF xs)∧SOk xs:=by
 obtain ⟨h1,h2,_⟩:=(rd_ref xs).1 h
 have e:dgS xs=xs.drop (rdF xs):=by
  unfold dgS rdF
  by_cases k:xs.head?=some 45
  · rw [if_pos (.inl k),if_pos k]
  · rw [if_neg k,List.drop_zero]
    refine if_neg fun k2=>?_
    have k3:=k2.resolve_left k
    have e0:rdF xs=0:=if_neg k
    rw [e0,List.drop_zero] at h1 h2
    cases xs with
    | nil=>exact h1 rfl
    | cons x r =>
     have:=h2 0 (by simp)
     have e:x=43:=by simpa using k3
     have e2:(x::r).getD 0 0=x:=rfl
     rw [e2,e] at this
     have:=this.1
     omega
 refine ⟨e,?_⟩
 unfold SOk
 rw [e]
 exact ⟨h1,mem_getD h2⟩
end Go.Proofs.YthkpghhoffihmaaGreatDoor
end
section
namespace Go.Proofs.YthkpghhoffihmaaGreatDoor
open Go Go.RowKit
theorem Row.cellAt {w:World} {base g n cap:Nat} {zs:List Nat} (h:Row w base (.slice (some ⟨g,0,none⟩) n cap) zs) (hn:n=zs.length) (j:Nat) (hj:j<zs.length):w.cell? ⟨g,j,none⟩=some (.int .u32 (zs.getD j 0:Nat)):=by
 subst hn
 rw [h.2.cellAt j (by omega),List.getElem?_map,List.getElem?_eq_getElem hj,getD_in hj]
 rfl
theorem Row.frozenAt {w:World} {base g n cap:Nat} {zs:List Nat} (h:Row w base (.slice (some ⟨g,0,none⟩) n cap) zs) (hn:n=zs.length) (j:Nat):w.frozen? ⟨g,j,none⟩=false:=by
 subst hn
 exact h.2.frozenAt j
theorem Row.shape {w:World} {base:Nat} {v:Value} {zs:List Nat} (h:Row w base v zs):(zs=[]∧v=.slice none 0 0)∨∃ g cap,v=.slice (some ⟨g,0,none⟩) zs.length cap∧base≤g∧g<w.heap.size:=by
 obtain ⟨hw,hlen,h2⟩:=h
 rcases h2 with ⟨e,h0⟩ | ⟨g,cap,cur,e,hg,hh,_⟩
 · exact .inl ⟨List.eq_nil_of_length_eq_zero h0,e⟩
 · exact .inr ⟨g,cap,e,hg,heap_some_lt hh⟩
theorem Row.below {w w':World} {base:Nat} {v:Value} {zs:List Nat} (h:Row w base v zs) (k:Below w.heap.size w w'):Row w' base v zs:=by
 refine ⟨h.1,h.2.1,?_⟩
 rcases h.2.2 with h2 | ⟨g,cap,cur,e,hg,hh,h3⟩
 · exact .inl h2
 · exact .inr ⟨g,cap,cur,e,hg,by rw [k.block g (heap_some_lt hh)]; exact hh,h3⟩
theorem ss_step {ps:List Nat} {k x:Nat} (hk:k<ps.length) (hx:ps.getD k 0=x):dval (ps.take (k+1))=10*dval (ps.take k)+(x-48):=by rw [dval_take ps k hk,hx]
theorem ss_lt {ps:List Nat} (k:Nat) (h:∀ x∈ps.take k,Dg x) (hk:k≤9):dval (ps.take k)<1000000000:=by
 refine Nat.lt_of_lt_of_le (dval_lt _ h) (Nat.le_trans (Nat.pow_le_pow_right (by decide) (Nat.le_trans (List.length_take_le ..) hk)) (by decide))
theorem ss_take {ds:List Nat} (j n:Nat):ds.take (j+n)=ds.take j++(ds.drop j).take n:=List.take_add ..
theorem ss_group {ls ys ds:List Nat} {j n:Nat} {c:Nat} (hj:j+n≤ds.length) (hv:val ls=dval (ds.take j)) (hl:ys.length=ls.length) (he:val ys+4294967296^ys.length*c=val (ls.take ls.length)*10^n+dval ((ds.drop j).take n)) :
  val (ys++if 0<c then [c] else [])=dval (ds.take (j+n)):=by
 rw [mulw_end ls ys _ c _ hl he,hv,ss_take,dval_append,List.length_take,List.length_drop,Nat.min_eq_left (by omega)]
theorem ss_row {ys ls:List Nat} {k z:Nat} (hy:ys.length=k) (hk:k<ls.length):(ys++ls.drop k).set k z=(ys++[z])++ls.drop (k+1):=by
 rw [List.set_append_right _ _ (by omega),hy,Nat.sub_self,List.drop_eq_getElem_cons hk,List.set_cons_zero,List.append_assoc]
 rfl
theorem ss_get {ys ls:List Nat} {k:Nat} (hy:ys.length=k):(ys++ls.drop k).getD k 0=ls.getD k 0:=by
 have:=getD_app ys (ls.drop k) 0
 rw [Nat.add_zero,hy] at this
 rw [this,getD_drop,Nat.add_zero]
set_option maxRecDepth 100000 in
set_option maxHeartbeats 3200000 in
theorem SetString_any {w:World} {b o:Nat} {xs:List Nat} (hz:Slot w b o 2) (h8:B8 xs) (hl:xs.length≤1000000) :
  Calls Tryz.prog 241 #[.pointer (some ⟨b,o,none⟩),.string (strN xs),.int .i64 10] w fun e w' =>
   (SOk xs∧e=.returned (.tuple #[.pointer (some ⟨b,o,none⟩),.bool true])∧IntAt w' b o (sg (decide (xs.head?=some 45)) (dval (dgS xs)))∧Touch w w' b o 2)∨(¬ SOk xs∧e=.returned (.tuple #[.pointer none,.bool false])∧Below w.heap.size w w'):=by
 have hcv:=fun (w:World) (s:ByteArray)=>run_bytes_of_string (P:=Tryz.prog) w 9 57 5 s Tryz.underlying9 Tryz.underlying57 Tryz.underlying5
 have hcase:xs=[]∨(∃ ds,xs=45::ds)∨(∃ ds,xs=43::ds)∨(∃ x r,xs=x::r∧x≠45∧x≠43):=by
  cases xs with
  | nil=>exact .inl rfl
  | cons x r =>
   by_cases h1:x=45
   · exact .inr (.inl ⟨r,by rw [h1]⟩)
   by_cases h2:x=43
   · exact .inr (.inr (.inl ⟨r,by rw [h2]⟩))
   exact .inr (.inr (.inr ⟨x,r,rfl,h1,h2⟩))
 have HZ:=Lib.hid hz
 clear hz
 rcases hcase with rfl | hcase
 · have hs:strN []=⟨#[]⟩:=rfl
   rw [hs]
   go_enter Tryz.func241,Tryz.ntmps241
   go_wp2
   go_ret2
   exact .inr ⟨fun h=>h.1 rfl,rfl,Below.refl _ _⟩
 obtain ⟨S,hS⟩:∃ S,S=strN xs:=⟨_,rfl⟩
 have hne:¬ S.toList=[]:=by
  rw [Lib.toList_data,hS,strN_data]
  intro h
  rcases hcase with ⟨ds,rfl⟩ | ⟨ds,rfl⟩ | ⟨x,r,rfl,_⟩<;>cases h
 have hne2:S.toList.isEmpty=false:=by
  cases hq:S.toList with
  | nil=>exact absurd hq hne
  | cons x r=>rfl
 have h0:0<xs.length:=by rcases hcase with ⟨ds,rfl⟩ | ⟨ds,rfl⟩ | ⟨x,r,rfl,_⟩<;>simp
 have hsz:(S.size:Int)=(xs.length:Int):=by rw [hS,strN_size]
 have hidx:0<S.size:=by omega
 have hch:(S[0]'hidx).toNat=xs.getD 0 0:=by
  subst hS
  exact strN_at h8 hidx
 have hex:S.extract 1 S.size=strN (xs.drop 1):=by
  rw [hS,strN_ext,strN_size,List.take_of_length_le (by rw [List.length_drop]; exact Nat.le_refl _)]
 rw [← hS]
 obtain ⟨M,hM⟩:∃ M,M=xs.length:=⟨_,rfl⟩
 rw [← hM] at hsz h0 hl
 have main:∃ (ds:List Nat) (ng:Bool),dgS xs=ds∧decide (xs.head?=some 45)=ng∧B8 ds∧ds.length≤1000000∧((∃ c,xs.getD 0 0=c∧(c=45∧ng=true∨c=43∧ng=false)∧strN (xs.drop 1)=strN ds)∨(∃ c,xs.getD 0 0=c∧((c:Int)==45)=false∧((c:Int)==43)=false∧ng=false∧S=strN ds)):=by
  rcases hcase with ⟨ds,rfl⟩ | ⟨ds,rfl⟩ | ⟨x,r,rfl,h1,h2⟩
  · exact ⟨ds,true,rfl,rfl,h8.tail,by rw [List.length_cons] at hM; omega,.inl ⟨45,rfl,.inl ⟨rfl,rfl⟩,rfl⟩⟩
  · exact ⟨ds,false,rfl,rfl,h8.tail,by rw [List.length_cons] at hM; omega,.inl ⟨43,rfl,.inr ⟨rfl,rfl⟩,rfl⟩⟩
  · refine ⟨x::r,false,?_,?_,h8,by rw [← hM]; exact hl,.inr ⟨x,rfl,beq_eq_false_iff_ne.2 (by omega),beq_eq_false_iff_ne.2 (by omega),rfl,hS⟩⟩
    · unfold dgS
      exact if_neg (by simp [h1,h2])
    · simp [h1]
 obtain ⟨ds,ng,hdg,hng,hd8,hdl,hform⟩:=main
 have HDG:=Lib.hid hdg
 have HNG:=Lib.hid hng
 have HD8:=Lib.hid hd8
 obtain ⟨m,hm⟩:∃ m,m=ds.length:=⟨_,rfl⟩
 have HM:=Lib.hid hm
 rw [← hm] at hdl
 have heq:(strN ds).toList=[]↔m=0:=by
  rw [Lib.toList_data,strN_data,List.map_eq_nil_iff,hm]
  exact List.length_eq_zero_iff.symm
 clear hdg hng hd8 hm hcase hM h8 hS
 have hgo:(∃ c,(S[0]'hidx).toNat=c∧(c=45∧ng=true∨c=43∧ng=false)∧S.extract 1 S.size=strN ds)∨(∃ c,(S[0]'hidx).toNat=c∧((c:Int)==45)=false∧((c:Int)==43)=false∧ng=false∧S=strN ds):=by
  rcases hform with ⟨c,h1,h2,h3⟩ | ⟨c,h1,h2⟩
  · exact .inl ⟨c,by rw [hch,h1],h2,by rw [hex,h3]⟩
  · exact .inr ⟨c,by rw [hch,h1],h2⟩
 clear hform hch hex
 rcases Nat.eq_zero_or_pos m with hm0 | hm0
 · subst hm0
   have hno:¬ SOk xs:=fun h=>h.1 (by rw [HDG.out]; exact List.eq_nil_of_length_eq_zero HM.out.symm)
   have HNO:=Lib.hid hno
   clear hno
   have heq:=heq.2 rfl
   have heq2:(strN ds).toList.isEmpty=true:=by rw [heq]; rfl
   rcases hgo with ⟨c,hch,⟨rfl,rfl⟩ | ⟨rfl,rfl⟩,hex⟩ | ⟨c,hch,hc1,hc2,rfl,rfl⟩
   · go_enter Tryz.func241,Tryz.ntmps241
     go_wp2
     go_ret2
     exact .inr ⟨HNO.out,rfl,Below.refl _ _⟩
   · go_enter Tryz.func241,Tryz.ntmps241
     go_wp2
     go_ret2
     exact .inr ⟨HNO.out,rfl,Below.refl _ _⟩
   · exact absurd heq hne
 have heq1:¬ (strN ds).toList=[]:=fun e=>by
  have:=heq.1 e
  omega
 have heq2:(strN ds).toList.isEmpty=false:=by
  cases hq:(strN ds).toList with
  | nil=>exact absurd hq heq1
  | cons x r=>rfl
 clear heq
 have HNE:Hid (ds≠[]):=fun e=>by
  have:=HM.out
  rw [e] at this
  simp at this
  omega
 rcases hgo with ⟨c,hch,⟨rfl,rfl⟩ | ⟨rfl,rfl⟩,hex⟩ | ⟨c,hch,hc1,hc2,rfl,rfl⟩
 all_goals
  go_enter Tryz.func241,Tryz.ntmps241
  go_wp2
  go_loopg [1,9] m (fun k sv l wr=>∃ (j:Nat) (ls:List Nat),m-j≤k∧j≤m∧sv=.string (strN (ds.drop j))∧Hid (∀ x∈ds.take j,Dg x)∧Hid (val ls=dval (ds.take j))∧Hid (ls.length≤j)∧Hid (Row wr w.heap.size l ls)∧Hid (Below w.heap.size w wr))
  case atStart=>exact ⟨0,[],by omega,by omega,rfl,by simp [Hid],rfl,Nat.le_refl _,Row.nil _ _,Below.refl _ _⟩
  case round =>
   obtain ⟨j,ls,hjk,hj,rfl,HDJ,HVJ,HLJ,HROW,HB⟩:=hrel
   obtain ⟨q,hq⟩:∃ q,q=m-j:=⟨_,rfl⟩
   obtain ⟨T,hT⟩:∃ T,T=strN (ds.drop j):=⟨_,rfl⟩
   have hsz:(T.size:Int)=(q:Int):=by rw [hT,strN_size,List.length_drop,← HM.out,hq]
   rw [← hT]
   rcases Nat.eq_zero_or_pos q with hq0 | hq0
   · subst hq0
     have hjm:j=m:=by omega
     have HV:Hid (val ls=dval ds):=by rw [Hid,HVJ.out,List.take_of_length_le (by rw [← HM.out]; omega)]
     have HOK:Hid (SOk xs):=by
      unfold Hid SOk
      rw [HDG.out]
      refine ⟨HNE.out,?_⟩
      have:=HDJ.out
      rwa [List.take_of_length_le (by rw [← HM.out]; omega)] at this
     have hw:=HROW.out.words (by have:=HLJ.out; omega)
     have HW:=Lib.hid hw
     obtain ⟨A',L',cap',rfl⟩:=hw.form
     have hz1:=HZ.out.on HB.out
     clear hw hT hq hjk hjm
     go_wp2_with fail
     refine (is_any _ hz1 HW.out).mono ?_
     rintro e w3 ⟨rfl,h1,h2⟩
     rw [HV.out] at h1
     have H3:=Lib.hid h1
     have H4:=Lib.hid h2
     clear h1 h2 hz1
     go_wp2
     go_ret2
     refine .inl ⟨HOK.out,rfl,?_,(Touch.of_below HB.out b o 2).trans H4.out⟩
     rw [HNG.out,HDG.out]
     exact H3.out
   · obtain ⟨n,hn⟩:∃ n,n=min 9 q:=⟨_,rfl⟩
     have hn9:n≤9:=by omega
     have hnq:n≤q:=by omega
     have hn0:0<n:=by omega
     have hmin:(if (q:Int)<9 then (q:Int) else 9)=(n:Int):=by split<;>omega
     obtain ⟨ps,hps⟩:∃ ps,ps=(ds.drop j).take n:=⟨_,rfl⟩
     obtain ⟨U,hU⟩:∃ U,U=strN ps:=⟨_,rfl⟩
     have hext:T.extract 0 n=U:=by rw [hT,strN_ext,List.drop_zero,Nat.sub_zero,hU,hps]
     have hpl:ps.length=n:=by
      rw [hps,List.length_take,List.length_drop,← HM.out]
      omega
     have hUs:(U.size:Int)=(n:Int):=by rw [hU,strN_size,hpl]
     have HPS:=Lib.hid hps
     have HPL:=Lib.hid hpl
     have HP8:Hid (B8 ps):=by rw [hps]; exact (HD8.out.drop j).take n
     have HNX:Hid (T.extract n T.size=strN (ds.drop (j+n))):=by
      rw [Hid,hT,strN_ext,strN_size,List.drop_drop,List.take_of_length_le (by rw [List.length_drop,List.length_drop]; omega)]
     have HPT:Hid (∀ k,∀ x∈ps.take k,x∈ds):=fun k x hx=>by
      rw [hps] at hx
      exact List.mem_of_mem_drop (List.mem_of_mem_take (List.mem_of_mem_take hx))
     have hlen:(ls.length:Int)=(ls.length:Int):=rfl
     have hcv1:=hcv wr U
     have HU:=Lib.hid hU
     have HQ:=Lib.hid hq
     have HN:=Lib.hid hn
     clear hps hpl hT hq hn hU
     go_wp2
     clear hcv1
     have hby:=byt_row (W:=wr) U (grownCap wr U.size 0 5) (grownCap wr U.size 0 5) wr.heap.size ((bytesRow U (grownCap wr U.size 0 5)).size,(bytesRow U (grownCap wr U.size 0 5)).size+1) rfl
     have hbl:=below_row wr (bytesRow U (grownCap wr U.size 0 5)) 5 ((bytesRow U (grownCap wr U.size 0 5)).size,(bytesRow U (grownCap wr U.size 0 5)).size+1)
     generalize grownCap wr U.size 0 5=cp at hby hbl ⊢
     generalize (wr.alloc (.cells (bytesRow U cp) 5 ((bytesRow U cp).size,(bytesRow U cp).size+1))).drew=W3 at hby hbl ⊢
     have hUn:U.size=n:=by omega
     rw [HU.out,leS_strN _ HP8.out,List.reverse_reverse,← HU.out,hUn] at hby
     have hrow3:=Lib.hid (HROW.out.below hbl)
     have hb3:=Lib.hid (HB.out.trans (hbl.mono HB.out.size))
     have HBY:=Lib.hid hby
     have hwr:wr.heap.size<W3.heap.size:=by obtain ⟨_,_,h,_⟩:=hby.open_; exact h
     rw [hUn]
     clear hby hbl hext hUs hUn
     go_loopw [11,12,48] (fun by_ ad iv w4=>∃ (k:Nat),k≤n∧by_=.int .u64 ((10^k:Nat):Int)∧ad=.int .u64 ((dval (ps.take k):Nat):Int)∧iv=.int .i64 (k:Int)∧Hid (∀ x∈ps.take k,Dg x)∧Hid (Row w4 w.heap.size u9 ls)∧Hid (Byt w4 (.slice (some ⟨wr.heap.size,0,none⟩) n cp) ps)∧Hid (Below w.heap.size w w4)) (fun _ _ iv _=>n-(intOf iv).toNat)
     case atStart=>exact ⟨0,by omega,rfl,rfl,rfl,by simp [Hid],hrow3,HBY,hb3⟩
     case round =>
      obtain ⟨k,hk,rfl,rfl,rfl,HDK,HR4,HBY4,HB4⟩:=hrel
      clear hb3 hrow3
      by_cases hkn:k<n
      · obtain ⟨hbl1,hb81,hbl2,hcell⟩:=HBY4.out.open_
        obtain ⟨x,hx⟩:∃ x,x=ps.getD k 0:=⟨_,rfl⟩
        have hc1:=hcell k (by rw [← hbl1]; exact hkn)
        rw [← hx] at hc1
        have hx8:x<256:=by rw [hx]; exact hb81.getD k
        obtain ⟨p,hp⟩:∃ p,p=10^k:=⟨_,rfl⟩
        have hp9:p≤100000000:=by rw [hp]; exact Nat.le_trans (Nat.pow_le_pow_right (by decide) (by omega:k≤8)) (by decide)
        have HP:Hid (10^(k+1)=p*10):=by rw [Hid,hp,Nat.pow_succ]
        obtain ⟨d,hd⟩:∃ d,d=dval (ps.take k):=⟨_,rfl⟩
        have hd9:d<1000000000:=by rw [hd]; exact ss_lt k HDK.out (by omega)
        have HST:=Lib.hid (ss_step (by rw [← hbl1]; exact hkn) hx.symm)
        have HXM:Hid (x∈ps):=by
         rw [Hid,hx,getD_in (by rw [← hbl1]; exact hkn)]
         exact List.getElem_mem _
        have HXT:Hid (ps.take (k+1)=ps.take k++[x]):=by
         rw [Hid,hx,getD_in (by rw [← hbl1]; exact hkn)]
         exact List.take_succ_eq_append_getElem (by rw [← hbl1]; exact hkn)
        rw [← hd] at HST
        rw [← hp,← hd]
        have hsz4:=HB4.out.size
        clear hcell hb81 hp hd hx hbl1
        rcases (by omega:x<48∨(48≤x∧x<58)∨58≤x) with hlt | ⟨hge,hlt⟩ | hge
        · have HNO:Hid (¬ SOk xs):=fun h=>by
           have h2:=h.2 x (by rw [HDG.out]; exact HPT.out n x (by rw [List.take_of_length_le (by rw [HPL.out]; exact Nat.le_refl _)]; exact HXM.out))
           have:=h2.1
           omega
          go_wp2
          go_ret2
          exact .inr ⟨HNO.out,rfl,by repeat (first | exact HB4.out | apply Below.drew)⟩
        · have hx1:(x:Int)-48=((x-48:Nat):Int):=by omega
          obtain ⟨y,hy⟩:∃ y,y=x-48:=⟨_,rfl⟩
          have hy9:y≤9:=by omega
          rw [← hy] at hx1
          have HY:=Lib.hid hy
          clear hy
          go_wp2
          go_roundw
          case rel =>
           refine ⟨k+1,by omega,?_,?_,by go_num,?_,HR4,HBY4,HB4⟩
           · rw [HP.out]
             go_num
           · rw [HST.out,← HY.out]
             go_num
           · rw [Hid,HXT.out]
             intro z hz
             rcases List.mem_append.1 hz with h | h
             · exact HDK.out z h
             · obtain rfl:=List.mem_singleton.1 h
               exact ⟨hge,hlt⟩
          case measure=>simp [intOf]; omega
        · have HNO:Hid (¬ SOk xs):=fun h=>by
           have h2:=h.2 x (by rw [HDG.out]; exact HPT.out n x (by rw [List.take_of_length_le (by rw [HPL.out]; exact Nat.le_refl _)]; exact HXM.out))
           have:=h2.2
           omega
          go_wp2
          go_ret2
          exact .inr ⟨HNO.out,rfl,by repeat (first | exact HB4.out | apply Below.drew)⟩
      · obtain rfl:k=n:=by omega
        obtain ⟨B,hB⟩:∃ B,B=10^k:=⟨_,rfl⟩
        have hB9:B≤1000000000:=by rw [hB]; exact Nat.le_trans (Nat.pow_le_pow_right (by decide) hn9) (by decide)
        obtain ⟨d,hd⟩:∃ d,d=dval (ps.take k):=⟨_,rfl⟩
        have hd9:d≤1000000000:=by rw [hd]; exact Nat.le_of_lt (ss_lt k HDK.out hn9)
        have hpd:d=dval ((ds.drop j).take k):=by rw [hd,← HPS.out,List.take_of_length_le (by rw [HPL.out]; exact Nat.le_refl _)]
        have HPD:=Lib.hid hpd
        have HB0:=Lib.hid hB
        have hdk:∀ x∈ds.take (j+k),Dg x:=by
         rw [ss_take]
         intro x hx
         rcases List.mem_append.1 hx with h | h
         · exact HDJ.out x h
         · rw [← HPS.out] at h
           exact HDK.out x (by rw [List.take_of_length_le (by rw [HPL.out]; exact Nat.le_refl _)]; exact h)
        have HDK2:=Lib.hid hdk
        rw [← hB,← hd]
        obtain ⟨t,ht⟩:∃ t,t=ls.length:=⟨_,rfl⟩
        have HTL:=Lib.hid ht
        have htb:t≤1000000:=by have:=HLJ.out; omega
        obtain ⟨A,cap,rfl⟩:∃ A cap,u9=.slice A t cap:=by
         rcases HR4.out.shape with ⟨e1,e2⟩ | ⟨g,cap,e,_⟩
         · refine ⟨none,0,?_⟩
           rw [e2,ht,e1]
           rfl
         · exact ⟨_,cap,by rw [e,ht]⟩
        clear hB hd hpd hdk ht
        have hsz4:=HB4.out.size
        go_wp2
        go_loopw [12,69] (fun ad iv w5=>∃ (i c:Nat) (ys:List Nat),i≤t∧iv=.int .i64 (i:Int)∧ad=.int .u64 (c:Int)∧c≤1000000000∧Hid (ys.length=i)∧Hid (val ys+4294967296^i*c=val (ls.take i)*B+d)∧Hid (Row w5 w.heap.size (.slice A t cap) (ys++ls.drop i))∧Hid (Below w.heap.size w w5)) (fun _ iv _=>t-(intOf iv).toNat)
        case atStart=>exact ⟨0,d,[],by omega,rfl,rfl,hd9,rfl,by simp [Hid,val],HR4,HB4⟩
        case round =>
         obtain ⟨i,c,ys,hi,rfl,rfl,hc9,HYL,HVY,HR5,HB5⟩:=hrel
         have hsz5:=HB5.out.size
         have hzl:(ys++ls.drop i).length=t:=by rw [List.length_append,List.length_drop,HYL.out,← HTL.out]; omega
         by_cases hit:i<t
         · obtain ⟨g,rfl,hgl⟩:∃ g,A=some ⟨g,0,none⟩∧w.heap.size≤g:=by
            rcases HR5.out.shape with ⟨e1,_⟩ | ⟨g,cap',e,hgl,_⟩
            · rw [e1] at hzl
              simp at hzl
              omega
            · injection e with e
              exact ⟨g,e,hgl⟩
           obtain ⟨y,hy⟩:∃ y,y=ls.getD i 0:=⟨_,rfl⟩
           have hc1:=HR5.out.cellAt hzl.symm i (by omega)
           rw [ss_get HYL.out,← hy] at hc1
           have hf1:=HR5.out.frozenAt hzl.symm i
           have hyb:y<4294967296:=by
            have:=HR5.out.1
            rw [hy,getD_in (by rw [← HTL.out]; exact hit)]
            exact HROW.out.1 _ (List.getElem_mem _)
           obtain ⟨r,hr⟩:∃ r,r=y*B:=⟨_,rfl⟩
           have hri:(y:Int)*(B:Int)=(r:Int):=by rw [hr,Int.natCast_mul]
           have hrb:r≤4294967295*1000000000:=by rw [hr]; exact Nat.mul_le_mul (by omega) hB9
           obtain ⟨z,hz⟩:∃ z,z=(c+r) % 4294967296:=⟨_,rfl⟩
           obtain ⟨c',hc'⟩:∃ c',c'=(c+r)/4294967296:=⟨_,rfl⟩
           have hz4:z<4294967296:=by omega
           have hzi:((c:Int)+(r:Int)) % 4294967296=(z:Int):=by omega
           have hci:((c:Int)+(r:Int))/4294967296=(c':Int):=by omega
           have hc'9:c'≤1000000000:=by omega
           have HSET:=Lib.hid (HR5.out.set i z (z:Int) (by omega) hz4 rfl)
           have HV2:Hid (val (ys++[z])+4294967296^(i+1)*c'=val (ls.take (i+1))*B+d):=by
            rw [hz,hc']
            exact mulw_val ls ys i B c d (c+r) HYL.out HVY.out (by rw [hr,hy])
           clear hr hz hc' hy
           go_wp2
           go_roundw
           case rel =>
            refine ⟨i+1,c',ys++[z],by omega,by go_num,rfl,hc'9,?_,HV2,?_,?_⟩
            · rw [Hid,List.length_append,HYL.out]
              rfl
            · rw [← ss_row HYL.out (by rw [← HTL.out]; exact hit)]
              exact HSET
            · exact (HB5.out.setCell (by omega) _)
           case measure=>simp [intOf]; omega
         · obtain rfl:i=t:=by omega
           have hyt:ys.length=ls.length:=by rw [HYL.out,HTL.out]
           have hge:=ss_group (ls:=ls) (ys:=ys) (ds:=ds) (j:=j) (n:=k) (c:=c) (by rw [← HM.out]; have:=HQ.out; omega) HVJ.out hyt (by rw [hyt,← HTL.out,← HB0.out,← HPD.out]; exact HVY.out)
           have hrw:ys++ls.drop i=ys:=by rw [List.drop_eq_nil_of_le (by rw [← HTL.out]; exact Nat.le_refl _),List.append_nil]
           have hrow5:=HR5.out
           rw [hrw] at hrow5
           have hlen2:ys.length+1≤j+k:=by rw [hyt]; have:=HLJ.out; omega
           have hnx:=HNX.out
           have hjk2:j+k≤m:=by have:=HQ.out; omega
           have hjk3:m-(j+k)<gk:=by omega
           have HJK3:=Lib.hid hjk3
           have HJK2:=Lib.hid hjk2
           have HGE:=Lib.hid hge
           have HLE2:=Lib.hid hlen2
           have HJ1:=Lib.hid hj
           clear hge hlen2 hjk2 hjk3 hyt hrw hj hjk hzl
           by_cases hc0:0<c
           · go_wp2_with (at_builtin; refine wpList_append_word rfl (.tmp 91) (.tmp 94) rfl w.heap.size _ ys rfl (hrow5.alloc _) ⟨wr.heap.size,0,none⟩ 1 c _ rfl (cell_new0 _ _ _) ?_ (by omega) ?_ ?_ ?_)
             · omega
             · have:=HLE2.out; have:=HJK2.out; omega
             · simp; omega
             intro v' w' hrow2 hb2
             have HR6:=Lib.hid hrow2
             have HB6:=Lib.hid ((HB5.out.alloc hsz5 _).trans hb2)
             clear hrow2 hb2 hrow5
             go_wp2
             go_roundg (m-(j+k))
             case measure=>exact HJK3.out
             case rel =>
              refine ⟨j+k,ys++[c],Nat.le_refl _,HJK2.out,rfl,HDK2,?_,?_,HR6,HB6⟩
              · have:=HGE.out
                rwa [if_pos hc0] at this
              · rw [Hid,List.length_append]
                exact HLE2.out
           · have hc00:c=0:=by omega
             subst hc00
             have HR6:=Lib.hid hrow5
             clear hrow5
             go_wp2
             go_roundg (m-(j+k))
             case measure=>exact HJK3.out
             case rel =>
              refine ⟨j+k,ys,Nat.le_refl _,HJK2.out,rfl,HDK2,?_,?_,HR6,HB5⟩
              · have:=HGE.out
                rwa [if_neg hc0,List.append_nil] at this
              · have:=HLE2.out
                unfold Hid
                omega
end Go.Proofs.YthkpghhoffihmaaGreatDoor
end
section
namespace Go.Proofs.YthkpghhoffihmaaGreatDoor
open Go.RowKit
def sz (n:Int):Nat:=(mag n.natAbs).size
theorem sz_le {n:Int} {k:Nat}:sz n≤k↔n.natAbs<256^k:=mag_size_le
theorem sz_mul {a b:Int} {i j:Nat} (h:sz a≤i) (k:sz b≤j):sz (a*b)≤i+j:=by
 rw [sz_le] at *
 rw [Int.natAbs_mul,Nat.pow_add]
 exact Nat.mul_lt_mul'' h k
theorem sz_add {a b:Int} {i:Nat} (h:sz a≤i) (k:sz b≤i):sz (a+b)≤i+1:=by
 rw [sz_le] at *
 rw [Nat.pow_succ]
 have:=Int.natAbs_add_le a b
 omega
theorem sz_neg (a:Int):sz (-a)=sz a:=by
 unfold sz; rw [Int.natAbs_neg]
theorem sz_sub {a b:Int} {i:Nat} (h:sz a≤i) (k:sz b≤i):sz (a-b)≤i+1:=by
 rw [Int.sub_eq_add_neg]
 exact sz_add h (by rw [sz_neg]; exact k)
theorem sz_nat (d:Nat):sz (d:Int)=(mag d).size:=by unfold sz; rw [Int.natAbs_natCast]
def Sz (k:Nat) (q:Rat):Prop:=sz q.num≤k∧sz (q.den:Int)≤k
theorem Sz.mono {i k:Nat} {q:Rat} (h:Sz i q) (hk:i≤k):Sz k q:=⟨Nat.le_trans h.1 hk,Nat.le_trans h.2 hk⟩
theorem Sz.fit {k:Nat} {q:Rat} (h:Sz k q) (hk:k≤1024):Fit q:=⟨Nat.le_trans h.1 hk,by have:=h.2; rw [sz_nat] at this; omega⟩
theorem Sz.neg {k:Nat} {x:Rat} (h:Sz k x):Sz k (-x):=⟨by rw [show (-x).num = -x.num from rfl,sz_neg]; exact h.1,h.2⟩
theorem Fit.sz {q:Rat} (h:Fit q):Sz 1024 q:=⟨h.1,by rw [sz_nat]; exact h.2⟩
theorem sz_divInt {n d:Int} {k:Nat} (hd:d≠0) (h1:sz n≤k) (h2:sz d≤k):Sz k (Rat.divInt n d) :=
 ⟨mag_mono (num_le n d hd) h1,by rw [sz_nat]; exact mag_mono (den_le n d hd) h2⟩
theorem Sz.mul {i j:Nat} {x y:Rat} (h:Sz i x) (k:Sz j y):Sz (i+j) (x*y):=by
 rw [← divInt_mul]
 exact sz_divInt (Int.mul_ne_zero (den_ne x) (den_ne y)) (sz_mul h.1 k.1) (sz_mul h.2 k.2)
theorem Sz.div {i j:Nat} {x y:Rat} (h:Sz i x) (k:Sz j y) (h0:y≠0):Sz (i+j) (x/y):=by
 rw [← divInt_quo]
 exact sz_divInt (Int.mul_ne_zero (den_ne x) fun e=>h0 (Rat.num_eq_zero.1 e)) (sz_mul h.1 k.2) (sz_mul h.2 k.1)
theorem Sz.add {i j:Nat} {x y:Rat} (h:Sz i x) (k:Sz j y):Sz (i+j+1) (x+y):=by
 rw [← divInt_Add]
 refine sz_divInt (Int.mul_ne_zero (den_ne x) (den_ne y)) (sz_add (sz_mul h.1 k.2) ?_) (Nat.le_succ_of_le (sz_mul h.2 k.2))
 rw [Nat.add_comm]
 exact sz_mul k.1 h.2
theorem Sz.sub {i j:Nat} {x y:Rat} (h:Sz i x) (k:Sz j y):Sz (i+j+1) (x-y):=by
 rw [← divInt_Sub]
 refine sz_divInt (Int.mul_ne_zero (den_ne x) (den_ne y)) (sz_sub (sz_mul h.1 k.2) ?_) (Nat.le_succ_of_le (sz_mul h.2 k.2))
 rw [Nat.add_comm]
 exact sz_mul k.1 h.2
theorem Sz.okR2 {k:Nat} {q:Rat} (h:Sz k q) (hk:k≤4000000000):OkR q:=by
 have k1:=wl_size (Nat.le_trans h.1 hk)
 have k2:=wl_size (Nat.le_trans h.2 hk)
 refine ⟨?_,?_⟩
 · show (dig _).length≤_
   omega
 · show (dig ((q.den:Int)).natAbs).length≤_
   omega
theorem Sz.inv {k:Nat} {x:Rat} (h:Sz k x) (h0:x≠0):Sz k x⁻¹:=by
 rw [← divInt_inv]
 exact sz_divInt (fun e=>h0 (Rat.num_eq_zero.1 e)) h.2 h.1
structure GQ where
 re:Rat
 im:Rat
theorem GQ.ext2 {z w:GQ} (h:z.re=w.re) (k:z.im=w.im):z=w:=by cases z; cases w; cases h; cases k; rfl
def gadd (z w:GQ):GQ:=⟨z.re+w.re,z.im+w.im⟩
def gsub (z w:GQ):GQ:=⟨z.re-w.re,z.im-w.im⟩
def gmul (z w:GQ):GQ:=⟨z.re*w.re-z.im*w.im,z.re*w.im+z.im*w.re⟩
def gneg (z:GQ):GQ:=⟨-z.re,-z.im⟩
def gconj (z:GQ):GQ:=⟨z.re,-z.im⟩
def gnorm (z:GQ):Rat:=z.re*z.re+z.im*z.im
def gscale (z:GQ) (x:Rat):GQ:=⟨z.re*x,z.im*x⟩
def gdiv (z w:GQ):GQ:=gscale (gmul z (gconj w)) (gnorm w)⁻¹
def gint (n m:Int):GQ:=⟨Rat.divInt n 1,Rat.divInt m 1⟩
def gzero (z:GQ):Bool:=decide (z.re=0)&&decide (z.im=0)
theorem gzero_iff {z:GQ}:gzero z=true↔z.re=0∧z.im=0:=by simp [gzero]
theorem rsq_nonneg (x:Rat):0≤x*x:=by
 rcases (Rat.le_total:(0:Rat)≤x∨x≤0) with h | h
 · exact Rat.mul_nonneg h h
 · have:=Rat.mul_nonneg (Rat.neg_le_neg h) (Rat.neg_le_neg h)
   rwa [Rat.neg_mul,Rat.mul_neg,Rat.neg_neg] at this
theorem gnorm_ne {z:GQ} (h:gzero z=false):gnorm z≠0:=by
 intro e
 have h1:=rsq_nonneg z.re
 have h2:=rsq_nonneg z.im
 have h3:z.re*z.re=0∧z.im*z.im=0:=by unfold gnorm at e; constructor<;>grind
 have h4:z.re=0:=(Rat.mul_eq_zero.1 h3.1).elim id id
 have h5:z.im=0:=(Rat.mul_eq_zero.1 h3.2).elim id id
 have:=gzero_iff.2 ⟨h4,h5⟩
 rw [h] at this
 cases this
def GSz (k:Nat) (z:GQ):Prop:=Sz k z.re∧Sz k z.im
theorem GSz.mono {i k:Nat} {z:GQ} (h:GSz i z) (hk:i≤k):GSz k z:=⟨h.1.mono hk,h.2.mono hk⟩
theorem GSz.mul {i j:Nat} {z w:GQ} (h:GSz i z) (k:GSz j w):GSz (i+j+(i+j)+1) (gmul z w):=⟨(h.1.mul k.1).sub (h.2.mul k.2),(h.1.mul k.2).add (h.2.mul k.1)⟩
theorem GSz.neg {i:Nat} {z:GQ} (h:GSz i z):GSz i (gneg z):=⟨h.1.neg,h.2.neg⟩
theorem GSz.conj {i:Nat} {z:GQ} (h:GSz i z):GSz i (gconj z):=⟨h.1,h.2.neg⟩
theorem GSz.norm {i:Nat} {z:GQ} (h:GSz i z):Sz (i+i+(i+i)+1) (gnorm z):=(h.1.mul h.1).add (h.2.mul h.2)
theorem GSz.scale {i j:Nat} {z:GQ} {x:Rat} (h:GSz i z) (k:Sz j x):GSz (i+j) (gscale z x):=⟨h.1.mul k,h.2.mul k⟩
theorem GSz.div {i j:Nat} {z w:GQ} (h:GSz i z) (k:GSz j w) (h0:gzero w=false):GSz (i+j+(i+j)+1+(j+j+(j+j)+1)) (gdiv z w):=(h.mul k.conj).scale (k.norm.inv (gnorm_ne h0))
theorem sz_small {n:Int} (h:n.natAbs<256):sz n≤1:=by rw [sz_le]; exact h
theorem Sz.small {n:Int} (h:n.natAbs<256):Sz 1 (Rat.divInt n 1):=sz_divInt (by decide) (sz_small h) (sz_small (by decide))
end Go.Proofs.YthkpghhoffihmaaGreatDoor
end
