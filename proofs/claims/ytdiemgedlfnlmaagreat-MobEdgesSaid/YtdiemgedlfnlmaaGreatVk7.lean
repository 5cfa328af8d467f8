/- Int, IntB, IntC, Bym, IntD, IntE, Wh. -/
import Derived.Laws.IdiomStrings
import Derived.Laws.BytesArg
import Derived.Laws.BitsLemmas
import Derived.Laws.StructEq
import Derived.Laws.Tables
import Derived.Test.YtdiemgedlfnlmaaGreatVk6
set_option linter.unnecessarySimpa false
set_option linter.unusedVariables false
set_option linter.unusedSimpArgs false
section
namespace Go.Proofs.YtdiemgedlfnlmaaGreat
open Go.RowKit
def sg (neg:Bool) (m:Nat):Int:=if neg then -(m:Int) else (m:Int)
theorem sg_natAbs (neg:Bool) (m:Nat):(sg neg m).natAbs=m:=by cases neg<;>simp [sg]
theorem sg_neg (neg:Bool) (m:Nat):decide (sg neg m<0)=(neg&&decide (0<m)):=by
 cases neg<;>simp [sg]
theorem sg_of (n:Int):sg (decide (n<0)) n.natAbs=n:=by
 unfold sg
 split<;>rename_i h<;>simp at h<;>omega
theorem len_pos (m:Nat):decide (0<(dig m).length)=decide (0<m):=by
 rw [decide_eq_decide]
 have:=dig_nil_iff m
 constructor
 · intro h
   rcases Nat.eq_zero_or_pos m with h0 | h0
   · rw [this.2 h0] at h; simp at h
   · exact h0
 · intro h
   rcases Nat.eq_zero_or_pos (dig m).length with h0 | h0
   · have:=this.1 (List.eq_nil_of_length_eq_zero h0); omega
   · exact h0
theorem intAt_set {w:World} {b o:Nat} {A:Option Addr} {cap:Nat} {xs:List Nat} {neg:Bool} (hs:Slot w b o 2) (hw:Words w (.slice A (trim xs).length cap) (trim xs)) (hwf:Wf xs) (c:Bool) (hc:c=(neg&&decide (0<(trim xs).length))) :
  IntAt ((w.setCell ⟨b,o+1,none⟩ (.slice A (trim xs).length cap)).setCell ⟨b,o,none⟩ (.bool c)) b o (sg neg (val xs)) ∧
  Touch w ((w.setCell ⟨b,o+1,none⟩ (.slice A (trim xs).length cap)).setCell ⟨b,o,none⟩ (.bool c)) b o 2:=by
 have ht:Touch w ((w.setCell ⟨b,o+1,none⟩ (.slice A (trim xs).length cap)).setCell ⟨b,o,none⟩ (.bool c)) b o 2 :=
  ((Touch.refl w b o 2).set_ (o+1) (by omega) _).set_ o (by omega) _
 obtain ⟨cs,t,h1,h2,h3⟩:=id hs
 have hb:((w.setCell ⟨b,o+1,none⟩ (.slice A (trim xs).length cap)).setCell ⟨b,o,none⟩ (.bool c)).heap[b]?=some (.cells ((cs.setIfInBounds (o+1) (.slice A (trim xs).length cap)).setIfInBounds o (.bool c)) t (0,0)):=by
  simp [World.setCell,Array.getElem?_modify,h1]
 have hd:trim xs=dig (val xs):=dig_of xs _ hwf rfl
 refine ⟨⟨hs.touch ht,?_,.slice A (trim xs).length cap,?_,?_⟩,ht⟩
 · rw [cell_of_row _ _ _ _ _ _ hb,Array.getElem?_setIfInBounds_self_of_lt (by simp; omega),sg_neg,hc,hd,len_pos]
 · rw [cell_of_row _ _ _ _ _ _ hb,Array.getElem?_setIfInBounds_ne (by omega),Array.getElem?_setIfInBounds_self_of_lt (by omega)]
 · rw [sg_natAbs,← hd]
   exact hw.touch hs ht
theorem is_any {w:World} {b o:Nat} {A:Option Addr} {n cap:Nat} {xs:List Nat} (neg:Bool) (hs:Slot w b o 2) (hw:Words w (.slice A n cap) xs) :
  Calls Tryz.prog 354 #[.pointer (some ⟨b,o,none⟩),.bool neg,.slice A n cap] w fun e w'=>e=.returned (.pointer (some ⟨b,o,none⟩))∧IntAt w' b o (sg neg (val xs))∧Touch w w' b o 2:=by
 obtain ⟨v0,hc0⟩:=hs.cell o (by omega)
 obtain ⟨v1,hc1⟩:=hs.cell (o+1) (by omega)
 have hf0:=hs.frozen o
 have hf1:=hs.frozen (o+1)
 have HW:=Lib.hid hw
 have hset:=fun c hc=>intAt_set (neg:=neg) (c:=c) hs hw.trim_ hw.1 hc
 have HS:=Lib.hid hset
 have hml:=(trim_length_le xs)
 have hnl:=hw.2.1
 clear hset hw hs
 obtain ⟨m,hm⟩:∃ m,m=(trim xs).length:=⟨_,rfl⟩
 rw [← hm] at HS
 have hmb:m≤17179869184:=by omega
 have HM:=Lib.hid hm
 clear hm hml hnl
 cases neg
 all_goals
  go_enter Tryz.func354,Tryz.ntmps354
  go_wp2_with (go_at_call 382; refine (cut_any HW.out).mono ?_; rw [← HM.out]; rintro e w2 ⟨rfl,rfl⟩)
  go_ret
  exact ⟨rfl,HS.out _ (by simp)⟩
theorem set_any {w:World} {b o c p:Nat} {n:Int} (hz:Slot w b o 2) (hx:IntAt w c p n) :
  Calls Tryz.prog 341 #[.pointer (some ⟨b,o,none⟩),.pointer (some ⟨c,p,none⟩)] w fun e w'=>e=.returned (.pointer (some ⟨b,o,none⟩))∧IntAt w' b o n∧Touch w w' b o 2:=by
 have HX:=Lib.hid hx
 have HZ:=Lib.hid hz
 obtain ⟨_,hc0,v,hc1,hv⟩:=hx
 obtain ⟨A,m,cap,rfl⟩:=hv.form
 have HV:=Lib.hid hv
 have HC0:=Lib.hid hc0
 have HC1:=Lib.hid hc1
 have hlt:c<w.heap.size:=HX.out.lt
 clear hz hv hc0 hc1
 go_enter Tryz.func341,Tryz.ntmps341
 go_wp2
 refine wp_region_acts 10 (fun w'=>Below w.heap.size w w') (fun w w'=>Below w.heap.size w w') (fun i w v=>match i with
   | 0=>v=.pointer (some ⟨b,o,none⟩)
   | 1=>v=.pointer (some ⟨c,p,none⟩)
   | 2=>v=.pointer (some ⟨c,p,none⟩)
   | 3=>v=.pointer (some ⟨c,p,none⟩)
   | 4=>v=.bool (decide (n<0))
   | 5=>v=.pointer (some ⟨c,p,none⟩)
   | 6=>v=.pointer (some ⟨c,p,none⟩)
   | 7=>v=.pointer (some ⟨c,p+1,none⟩)
   | 8=>v=.slice A m cap
   | _=>∃ A' m' c',v=.slice A' m' c'∧Words w (.slice A' m' c') (dig n.natAbs)) (by kernel_rfl) (by kernel_rfl) (by kernel_rfl) ((Below.refl _ _).drew) (fun _ _=>Below.refl _ _) ?_ ⟨?_,?_,?_,?_,?_,?_,?_,?_,?_,?_,trivial⟩ ?_
 · intro i w1 w2 v hC hC2 hE hV
   match i with
   | 0=>exact hV
   | 1=>exact hV
   | 2=>exact hV
   | 3=>exact hV
   | 4=>exact hV
   | 5=>exact hV
   | 6=>exact hV
   | 7=>exact hV
   | 8=>exact hV
   | _+9=>obtain ⟨A',m',c',e,h⟩:=hV; exact ⟨A',m',c',e,h.below hE⟩
 · intro a' w' hag hC hd K hK
   have e0:a'.tmps.getD 0 undef=.pointer (some ⟨b,o,none⟩):=hag 0 rfl
   go_step
   exact hK _ _ hC (Below.refl _ _) rfl
 · intro a' w' hag hC hd K hK
   have e1:a'.tmps.getD 1 undef=.pointer (some ⟨c,p,none⟩):=hag 1 rfl
   go_step
   exact hK _ _ hC (Below.refl _ _) rfl
 · intro a' w' hag hC hd K hK
   have e6:a'.tmps.getD 6 undef=.pointer (some ⟨c,p,none⟩):=hd.1
   go_step
   exact hK _ _ hC (Below.refl _ _) rfl
 · intro a' w' hag hC hd K hK
   have e7:a'.tmps.getD 7 undef=.pointer (some ⟨c,p,none⟩):=hd.1
   go_step
   exact hK _ _ hC (Below.refl _ _) rfl
 · intro a' w' hag hC hd K hK
   have e8:a'.tmps.getD 8 undef=.pointer (some ⟨c,p,none⟩):=hd.1
   have hcell:w'.cell? ⟨c,p,none⟩=some (.bool (decide (n<0))):=by rw [hC.cell (p:=⟨c,p,none⟩) hlt]; exact HC0.out
   have HC:=Lib.hid hC
   clear hC
   go_step
   exact hK _ _ HC.out (Below.refl _ _) rfl
 · intro a' w' hag hC hd K hK
   have e1:a'.tmps.getD 1 undef=.pointer (some ⟨c,p,none⟩):=hag 1 rfl
   go_step
   exact hK _ _ hC (Below.refl _ _) rfl
 · intro a' w' hag hC hd K hK
   have e10:a'.tmps.getD 10 undef=.pointer (some ⟨c,p,none⟩):=hd.1
   go_step
   exact hK _ _ hC (Below.refl _ _) rfl
 · intro a' w' hag hC hd K hK
   have e11:a'.tmps.getD 11 undef=.pointer (some ⟨c,p,none⟩):=hd.1
   go_step
   exact hK _ _ hC (Below.refl _ _) rfl
 · intro a' w' hag hC hd K hK
   have e12:a'.tmps.getD 12 undef=.pointer (some ⟨c,p+1,none⟩):=hd.1
   have hcell:w'.cell? ⟨c,p+1,none⟩=some (.slice A m cap):=by rw [hC.cell (p:=⟨c,p+1,none⟩) hlt]; exact HC1.out
   have HC:=Lib.hid hC
   clear hC
   go_step
   exact hK _ _ HC.out (Below.refl _ _) rfl
 · intro a' w' hag hC hd K hK
   have e13:a'.tmps.getD 13 undef=.slice A m cap:=hd.1
   refine wp_append_copy (.const (.slice none 0 0)) (.tmp 13) rfl rfl e13 (HV.out.below hC) (fun v' w2 h1 h2=>?_)
   obtain ⟨A',m',c',rfl⟩:=h1.form
   exact hK _ _ (hC.trans (h2.mono hC.size)) h2 ⟨_,_,_,rfl,h1⟩
 · intro u w' hC hall
   obtain ⟨u0,u1,u2,u3,u4,u5,u6,u7,u8,u9,_⟩:=hall
   have u0:u 0=.pointer (some ⟨b,o,none⟩):=u0
   have u1:u 1=.pointer (some ⟨c,p,none⟩):=u1
   have u2:u 2=.pointer (some ⟨c,p,none⟩):=u2
   have u3:u 3=.pointer (some ⟨c,p,none⟩):=u3
   have u4:u 4=.bool (decide (n<0)):=u4
   have u5:u 5=.pointer (some ⟨c,p,none⟩):=u5
   have u6:u 6=.pointer (some ⟨c,p,none⟩):=u6
   have u7:u 7=.pointer (some ⟨c,p+1,none⟩):=u7
   have u8:u 8=.slice A m cap:=u8
   obtain ⟨A',m',c',eu9,hw'⟩:=u9
   have u9:u 9=.slice A' m' c':=eu9
   simp only [fillR,List.take_succ_cons,List.take_zero,Act.put,List.setIfInBounds_toArray,List.set_cons_succ,List.set_cons_zero,Nat.zero_add,Nat.reduceAdd,u0,u1,u2,u3,u4,u5,u6,u7,u8,u9]
   clear u0 u1 u2 u3 u4 u5 u6 u7 u8 u9
   have HW:=Lib.hid hw'
   have HC:=Lib.hid hC
   have hsl:=HZ.out.on hC
   clear hw' hC
   go_wp2_with (go_at_call 354; refine (is_any (decide (n<0)) hsl HW.out).mono ?_; rintro e w2 ⟨rfl,h1,h2⟩)
   go_ret
   rw [val_dig,sg_of] at h1
   exact ⟨rfl,h1,(Touch.of_below HC.out _ _ _).trans h2⟩
theorem sign_any {w:World} {b o:Nat} {n:Int} (hx:IntAt w b o n) :
  Calls Tryz.prog 323 #[.pointer (some ⟨b,o,none⟩)] w fun e w'=>e=.returned (.int .i64 n.sign)∧w=w':=by
 obtain ⟨_,hc0,v,hc1,hv⟩:=hx
 obtain ⟨A,m,cap,rfl⟩:=hv.form
 have hm:=hv.len.1
 have hd:=dig_nil_iff n.natAbs
 have hb:=hv.2.1
 rcases Int.lt_trichotomy n 0 with h | h | h
 · have hs:n.sign = -1:=Int.sign_eq_neg_one_of_neg h
   have hdn:decide (n<0)=true:=by simpa using h
   have hm1:0<m:=by
    rcases Nat.eq_zero_or_pos m with h0 | h0
    · have:=hd.1 (List.eq_nil_of_length_eq_zero (by omega)); omega
    · exact h0
   have hmb:m≤17179869184:=by omega
   have hm2:((m:Int)==0)=false:=by rw [beq_eq_false_iff_ne]; omega
   rw [hdn] at hc0
   rw [hs]
   clear hm hd hb hv hs hdn h
   go_enter Tryz.func323,Tryz.ntmps323
   go_wp2
   go_ret
   exact ⟨rfl,rfl⟩
 · subst h
   have hm0:m=0:=by rw [hm,hd.2 rfl]; rfl
   subst hm0
   clear hm hd hb hv
   go_enter Tryz.func323,Tryz.ntmps323
   go_wp2
   go_ret
   exact ⟨rfl,rfl⟩
 · have hs:n.sign=1:=Int.sign_eq_one_of_pos h
   have hdn:decide (n<0)=false:=by simp; omega
   have hm1:0<m:=by
    rcases Nat.eq_zero_or_pos m with h0 | h0
    · have:=hd.1 (List.eq_nil_of_length_eq_zero (by omega)); omega
    · exact h0
   have hmb:m≤17179869184:=by omega
   have hm2:((m:Int)==0)=false:=by rw [beq_eq_false_iff_ne]; omega
   rw [hdn] at hc0
   rw [hs]
   clear hm hd hb hv hs hdn h
   go_enter Tryz.func323,Tryz.ntmps323
   go_wp2
   go_ret
   exact ⟨rfl,rfl⟩
theorem intAt_sign {w:World} {b o:Nat} {n n':Int} (h:IntAt w b o n) (hn:n'.natAbs=n.natAbs) (c:Bool) (hc:c=decide (n'<0)) :
  IntAt (w.setCell ⟨b,o,none⟩ (.bool c)) b o n'∧Touch w (w.setCell ⟨b,o,none⟩ (.bool c)) b o 2:=by
 have ht:Touch w (w.setCell ⟨b,o,none⟩ (.bool c)) b o 2:=(Touch.refl w b o 2).set_ o (by omega) _
 obtain ⟨hs,_,v,hc1,hv⟩:=h
 obtain ⟨cs,t,h1,h2,h3⟩:=id hs
 have hb:(w.setCell ⟨b,o,none⟩ (.bool c)).heap[b]?=some (.cells (cs.setIfInBounds o (.bool c)) t (0,0)):=by
  simp [World.setCell,Array.getElem?_modify,h1]
 refine ⟨⟨hs.touch ht,?_,v,?_,?_⟩,ht⟩
 · rw [cell_of_row _ _ _ _ _ _ hb,Array.getElem?_setIfInBounds_self_of_lt (by omega),hc]
 · rw [cell_of_row _ _ _ _ _ _ hb,Array.getElem?_setIfInBounds_ne (by omega),← cell_of_row w b (o+1) cs t (0,0) h1]
   exact hc1
 · rw [hn]
   exact hv.touch hs ht
theorem neg_any {w:World} {b o c p:Nat} {n:Int} (hz:Slot w b o 2) (hx:IntAt w c p n) :
  Calls Tryz.prog 332 #[.pointer (some ⟨b,o,none⟩),.pointer (some ⟨c,p,none⟩)] w fun e w'=>e=.returned (.pointer (some ⟨b,o,none⟩))∧IntAt w' b o (-n)∧Touch w w' b o 2:=by
 have HX:=Lib.hid hx
 have HZ:=Lib.hid hz
 clear hx hz
 go_enter Tryz.func332,Tryz.ntmps332
 go_wp2_with fail
 refine (set_any HZ.out HX.out).mono ?_
 rintro e w1 ⟨rfl,h1,h2⟩
 obtain ⟨hs,hc0,v,hc1,hv⟩:=id h1
 obtain ⟨A,m,cap,rfl⟩:=hv.form
 have hm:=hv.len.1
 have hmb:m≤17179869184:=by have:=hv.2.1; omega
 have hlp:=len_pos n.natAbs
 rw [← hm] at hlp
 have hf:=hs.frozen o
 have HS:=Lib.hid fun c hc=>intAt_sign (n':=-n) h1 (by omega) c hc
 have H2:=Lib.hid h2
 have HLP:=Lib.hid hlp
 clear h1 h2 hs hv hm hlp
 by_cases h:n<0
 · have hd:decide (n<0)=true:=by simpa using h
   rw [hd] at hc0
   clear hd
   go_wp2
   go_ret
   have h3:=HS.out _ (show false=decide (-n<0) by simp; omega)
   exact ⟨rfl,h3.1,H2.out.trans h3.2⟩
 · have hd:decide (n<0)=false:=by simp; omega
   rw [hd] at hc0
   clear hd
   go_wp2
   go_ret
   have h3:=HS.out (decide (0<m)) (by rw [HLP.out,decide_eq_decide]; omega)
   exact ⟨rfl,h3.1,H2.out.trans h3.2⟩
theorem of_any {w:World} (n:Nat) (hn:n≤18446744073709551615) :
  Calls Tryz.prog 372 #[.int .u64 (n:Int)] w fun e w'=>∃ v,e=.returned v∧Words w' v (dig n)∧Below w.heap.size w w':=by
 have e1:trim [n % 4294967296,n/4294967296]=dig n:=dig_of _ _ (Wf.cons (by omega) (Wf.cons (by omega) Wf.nil)) (by simp only [val]; omega)
 have hw:=words_two w (n % 4294967296) (n/4294967296) ((n:Int) % 4294967296) ((n:Int)/4294967296) (by omega) (by omega) (by omega) (by omega)
 have HE:=Lib.hid e1
 have HW:=Lib.hid hw
 have hq:(n:Int)/4294967296≤4294967295:=by omega
 clear e1 hw
 go_enter Tryz.func372,Tryz.ntmps372
 go_wp2_with (go_at_call 382; refine (cut_any HW.out).mono ?_; rintro e w2 ⟨rfl,rfl⟩)
 go_ret
 refine ⟨_,rfl,?_,(Below.refl _ _).alloc (Nat.le_refl _) _⟩
 have h:=HW.out.trim_
 rw [HE.out] at h ⊢
 exact h
theorem IntAt.open_ {w:World} {b o:Nat} {n:Int} (h:IntAt w b o n):∃ A m cap,w.cell? ⟨b,o,none⟩=some (.bool (decide (n<0)))∧w.cell? ⟨b,o+1,none⟩=some (.slice A m cap)∧Words w (.slice A m cap) (dig n.natAbs)∧b<w.heap.size:=by
 have hlt:=h.lt
 obtain ⟨_,hc0,v,hc1,hv⟩:=h
 obtain ⟨A,m,cap,rfl⟩:=hv.form
 exact ⟨A,m,cap,hc0,hc1,hv,hlt⟩
theorem sg_mul (n m:Int):sg (decide (n<0) != decide (m<0)) (n.natAbs*m.natAbs)=n*m:=by
 have e1:((n.natAbs*m.natAbs:Nat):Int)=(n.natAbs:Int)*(m.natAbs:Int):=Int.natCast_mul _ _
 by_cases h:n<0<;>by_cases k:m<0
 · have a1:(n.natAbs:Int) = -n:=by omega
   have a2:(m.natAbs:Int) = -m:=by omega
   simp [sg,h,k,e1,a1,a2,Int.neg_mul,Int.mul_neg]
 · have a1:(n.natAbs:Int) = -n:=by omega
   have a2:(m.natAbs:Int)=m:=by omega
   simp [sg,h,k,e1,a1,a2,Int.neg_mul,Int.mul_neg]
 · have a1:(n.natAbs:Int)=n:=by omega
   have a2:(m.natAbs:Int) = -m:=by omega
   simp [sg,h,k,e1,a1,a2,Int.neg_mul,Int.mul_neg]
 · have a1:(n.natAbs:Int)=n:=by omega
   have a2:(m.natAbs:Int)=m:=by omega
   simp [sg,h,k,e1,a1,a2,Int.neg_mul,Int.mul_neg]
def Okn (n:Int):Prop:=(dig n.natAbs).length≤4294967296
theorem mul_any {w:World} {b o c p d q:Nat} {n m:Int} (hz:Slot w b o 2) (hx:IntAt w c p n) (hy:IntAt w d q m) (hn:Okn n) (hm:Okn m) :
  Calls Tryz.prog 292 #[.pointer (some ⟨b,o,none⟩),.pointer (some ⟨c,p,none⟩),.pointer (some ⟨d,q,none⟩)] w fun e w'=>e=.returned (.pointer (some ⟨b,o,none⟩))∧IntAt w' b o (n*m)∧Touch w w' b o 2:=by
 obtain ⟨A,la,ca,hx0,hx1,hxv,hxl⟩:=hx.open_
 obtain ⟨B,lb,cb,hy0,hy1,hyv,hyl⟩:=hy.open_
 have hla:la≤4294967296:=by have:=hxv.len.1; unfold Okn at hn; omega
 have hlb:lb≤4294967296:=by have:=hyv.len.1; unfold Okn at hm; omega
 have HX0:=Lib.hid hx0
 have HX1:=Lib.hid hx1
 have HXV:=Lib.hid hxv
 have HY0:=Lib.hid hy0
 have HY1:=Lib.hid hy1
 have HYV:=Lib.hid hyv
 have HZ:=Lib.hid hz
 clear hx hy hx0 hx1 hxv hy0 hy1 hyv hz hn hm
 go_enter Tryz.func292,Tryz.ntmps292
 go_wp2
 refine wp_region_acts 19 (fun w'=>Below w.heap.size w w') (fun w w'=>Below w.heap.size w w') (fun i w v=>match i with
   | 0=>v=.pointer (some ⟨b,o,none⟩)
   | 1=>v=.pointer (some ⟨c,p,none⟩)
   | 2=>v=.pointer (some ⟨c,p,none⟩)
   | 3=>v=.pointer (some ⟨c,p,none⟩)
   | 4=>v=.bool (decide (n<0))
   | 5=>v=.pointer (some ⟨d,q,none⟩)
   | 6=>v=.pointer (some ⟨d,q,none⟩)
   | 7=>v=.pointer (some ⟨d,q,none⟩)
   | 8=>v=.bool (decide (m<0))
   | 9=>v=.bool (decide (n<0) != decide (m<0))
   | 10=>v=.pointer (some ⟨c,p,none⟩)
   | 11=>v=.pointer (some ⟨c,p,none⟩)
   | 12=>v=.pointer (some ⟨c,p+1,none⟩)
   | 13=>v=.slice A la ca
   | 14=>v=.pointer (some ⟨d,q,none⟩)
   | 15=>v=.pointer (some ⟨d,q,none⟩)
   | 16=>v=.pointer (some ⟨d,q+1,none⟩)
   | 17=>v=.slice B lb cb
   | _=>∃ A' m' c' zs,v=.slice A' m' c'∧Words w (.slice A' m' c') zs∧val zs=val (dig n.natAbs)*val (dig m.natAbs)) (by kernel_rfl) (by kernel_rfl) (by kernel_rfl) ((Below.refl _ _).drew) (fun _ _=>Below.refl _ _) ?_ ⟨?_,?_,?_,?_,?_,?_,?_,?_,?_,?_,?_,?_,?_,?_,?_,?_,?_,?_,?_,trivial⟩ ?_
 · intro i w1 w2 v hC hC2 hE hV
   match i with
   | 0=>exact hV
   | 1=>exact hV
   | 2=>exact hV
   | 3=>exact hV
   | 4=>exact hV
   | 5=>exact hV
   | 6=>exact hV
   | 7=>exact hV
   | 8=>exact hV
   | 9=>exact hV
   | 10=>exact hV
   | 11=>exact hV
   | 12=>exact hV
   | 13=>exact hV
   | 14=>exact hV
   | 15=>exact hV
   | 16=>exact hV
   | 17=>exact hV
   | _+18=>obtain ⟨A',m',c',zs,e,h,hz⟩:=hV; exact ⟨A',m',c',zs,e,h.below hE,hz⟩
 · intro a' w' hag hC hd K hK
   have e0:a'.tmps.getD 0 undef=.pointer (some ⟨b,o,none⟩):=hag 0 rfl
   go_step
   exact hK _ _ hC (Below.refl _ _) rfl
 · intro a' w' hag hC hd K hK
   have e1:a'.tmps.getD 1 undef=.pointer (some ⟨c,p,none⟩):=hag 1 rfl
   go_step
   exact hK _ _ hC (Below.refl _ _) rfl
 · intro a' w' hag hC hd K hK
   have e8:a'.tmps.getD 8 undef=.pointer (some ⟨c,p,none⟩):=hd.1
   go_step
   exact hK _ _ hC (Below.refl _ _) rfl
 · intro a' w' hag hC hd K hK
   have e9:a'.tmps.getD 9 undef=.pointer (some ⟨c,p,none⟩):=hd.1
   go_step
   exact hK _ _ hC (Below.refl _ _) rfl
 · intro a' w' hag hC hd K hK
   have e10:a'.tmps.getD 10 undef=.pointer (some ⟨c,p,none⟩):=hd.1
   have hcell:w'.cell? ⟨c,p,none⟩=some (.bool (decide (n<0))):=by rw [hC.cell (p:=⟨c,p,none⟩) hxl]; exact HX0.out
   have HC:=Lib.hid hC
   clear hC
   go_step
   exact hK _ _ HC.out (Below.refl _ _) rfl
 · intro a' w' hag hC hd K hK
   have e2:a'.tmps.getD 2 undef=.pointer (some ⟨d,q,none⟩):=hag 2 rfl
   go_step
   exact hK _ _ hC (Below.refl _ _) rfl
 · intro a' w' hag hC hd K hK
   have e12:a'.tmps.getD 12 undef=.pointer (some ⟨d,q,none⟩):=hd.1
   go_step
   exact hK _ _ hC (Below.refl _ _) rfl
 · intro a' w' hag hC hd K hK
   have e13:a'.tmps.getD 13 undef=.pointer (some ⟨d,q,none⟩):=hd.1
   go_step
   exact hK _ _ hC (Below.refl _ _) rfl
 · intro a' w' hag hC hd K hK
   have e14:a'.tmps.getD 14 undef=.pointer (some ⟨d,q,none⟩):=hd.1
   have hcell:w'.cell? ⟨d,q,none⟩=some (.bool (decide (m<0))):=by rw [hC.cell (p:=⟨d,q,none⟩) hyl]; exact HY0.out
   have HC:=Lib.hid hC
   clear hC
   go_step
   exact hK _ _ HC.out (Below.refl _ _) rfl
 · intro a' w' hag hC hd K hK
   have e11:a'.tmps.getD 11 undef=.bool (decide (n<0)):=hd.1
   have e15:a'.tmps.getD 15 undef=.bool (decide (m<0)):=hd.2.1
   go_step
   exact hK _ _ hC (Below.refl _ _) rfl
 · intro a' w' hag hC hd K hK
   have e1:a'.tmps.getD 1 undef=.pointer (some ⟨c,p,none⟩):=hag 1 rfl
   go_step
   exact hK _ _ hC (Below.refl _ _) rfl
 · intro a' w' hag hC hd K hK
   have e17:a'.tmps.getD 17 undef=.pointer (some ⟨c,p,none⟩):=hd.1
   go_step
   exact hK _ _ hC (Below.refl _ _) rfl
 · intro a' w' hag hC hd K hK
   have e18:a'.tmps.getD 18 undef=.pointer (some ⟨c,p,none⟩):=hd.1
   go_step
   exact hK _ _ hC (Below.refl _ _) rfl
 · intro a' w' hag hC hd K hK
   have e19:a'.tmps.getD 19 undef=.pointer (some ⟨c,p+1,none⟩):=hd.1
   have hcell:w'.cell? ⟨c,p+1,none⟩=some (.slice A la ca):=by rw [hC.cell (p:=⟨c,p+1,none⟩) hxl]; exact HX1.out
   have HC:=Lib.hid hC
   clear hC
   go_step
   exact hK _ _ HC.out (Below.refl _ _) rfl
 · intro a' w' hag hC hd K hK
   have e2:a'.tmps.getD 2 undef=.pointer (some ⟨d,q,none⟩):=hag 2 rfl
   go_step
   exact hK _ _ hC (Below.refl _ _) rfl
 · intro a' w' hag hC hd K hK
   have e21:a'.tmps.getD 21 undef=.pointer (some ⟨d,q,none⟩):=hd.1
   go_step
   exact hK _ _ hC (Below.refl _ _) rfl
 · intro a' w' hag hC hd K hK
   have e22:a'.tmps.getD 22 undef=.pointer (some ⟨d,q,none⟩):=hd.1
   go_step
   exact hK _ _ hC (Below.refl _ _) rfl
 · intro a' w' hag hC hd K hK
   have e23:a'.tmps.getD 23 undef=.pointer (some ⟨d,q+1,none⟩):=hd.1
   have hcell:w'.cell? ⟨d,q+1,none⟩=some (.slice B lb cb):=by rw [hC.cell (p:=⟨d,q+1,none⟩) hyl]; exact HY1.out
   have HC:=Lib.hid hC
   clear hC
   go_step
   exact hK _ _ HC.out (Below.refl _ _) rfl
 · intro a' w' hag hC hd K hK
   have e20:a'.tmps.getD 20 undef=.slice A la ca:=hd.1
   have e24:a'.tmps.getD 24 undef=.slice B lb cb:=hd.2.1
   go_step
   refine (product_any (HXV.out.below hC) (HYV.out.below hC) (by omega) (by omega)).mono ?_
   rintro e w2 ⟨v,zs,rfl,h1,h2,h3⟩
   obtain ⟨A',m',c',rfl⟩:=h1.form
   exact hK _ _ (hC.trans (h3.mono hC.size)) h3 ⟨_,_,_,_,rfl,h1,h2⟩
 · intro u w' hC hall
   obtain ⟨u0,u1,u2,u3,u4,u5,u6,u7,u8,u9,u10,u11,u12,u13,u14,u15,u16,u17,u18,_⟩:=hall
   have u0:u 0=.pointer (some ⟨b,o,none⟩):=u0
   have u1:u 1=.pointer (some ⟨c,p,none⟩):=u1
   have u2:u 2=.pointer (some ⟨c,p,none⟩):=u2
   have u3:u 3=.pointer (some ⟨c,p,none⟩):=u3
   have u4:u 4=.bool (decide (n<0)):=u4
   have u5:u 5=.pointer (some ⟨d,q,none⟩):=u5
   have u6:u 6=.pointer (some ⟨d,q,none⟩):=u6
   have u7:u 7=.pointer (some ⟨d,q,none⟩):=u7
   have u8:u 8=.bool (decide (m<0)):=u8
   have u9:u 9=.bool (decide (n<0) != decide (m<0)):=u9
   have u10:u 10=.pointer (some ⟨c,p,none⟩):=u10
   have u11:u 11=.pointer (some ⟨c,p,none⟩):=u11
   have u12:u 12=.pointer (some ⟨c,p+1,none⟩):=u12
   have u13:u 13=.slice A la ca:=u13
   have u14:u 14=.pointer (some ⟨d,q,none⟩):=u14
   have u15:u 15=.pointer (some ⟨d,q,none⟩):=u15
   have u16:u 16=.pointer (some ⟨d,q+1,none⟩):=u16
   have u17:u 17=.slice B lb cb:=u17
   obtain ⟨A',m',c',zs,eu18,hw',hzs⟩:=u18
   have u18:u 18=.slice A' m' c':=eu18
   simp only [fillR,List.take_succ_cons,List.take_zero,Act.put,List.setIfInBounds_toArray,List.set_cons_succ,List.set_cons_zero,Nat.zero_add,Nat.reduceAdd,u0,u1,u2,u3,u4,u5,u6,u7,u8,u9,u10,u11,u12,u13,u14,u15,u16,u17,u18]
   clear u0 u1 u2 u3 u4 u5 u6 u7 u8 u9 u10 u11 u12 u13 u14 u15 u16 u17 u18
   have HW:=Lib.hid hw'
   have HC:=Lib.hid hC
   have hsl:=HZ.out.on hC
   have HZS:=Lib.hid hzs
   clear hw' hC hzs
   go_wp2_with (go_at_call 354; refine (is_any _ hsl HW.out).mono ?_; rintro e w2 ⟨rfl,h1,h2⟩)
   go_ret
   refine ⟨rfl,?_,(Touch.of_below HC.out _ _ _).trans h2⟩
   rw [HZS.out,val_dig,val_dig,sg_mul] at h1
   exact h1
theorem cmpN_lss {n m:Nat} (h:n<m):decide (0≤cmpN n m)=false:=by rw [cmpN_lt h]; rfl
theorem cmpN_geq {n m:Nat} (h:m≤n):decide (0≤cmpN n m)=true:=by rw [decide_eq_true_eq]; exact cmpN_ge h
theorem add_any {w:World} {b o c p d q:Nat} {n m:Int} (neg:Bool) (hz:Slot w b o 2) (hx:IntAt w c p n) (hy:IntAt w d q m) (hn:Okn n) (hm:Okn m) :
  Calls Tryz.prog 343 #[.pointer (some ⟨b,o,none⟩),.pointer (some ⟨c,p,none⟩),.pointer (some ⟨d,q,none⟩),.bool neg] w fun e w'=>e=.returned (.pointer (some ⟨b,o,none⟩))∧IntAt w' b o (n+sg neg m.natAbs)∧Touch w w' b o 2:=by
 obtain ⟨A,la,ca,hx0,hx1,hxv,hxl⟩:=hx.open_
 obtain ⟨B,lb,cb,hy0,hy1,hyv,hyl⟩:=hy.open_
 have hla:la≤4294967296:=by have:=hxv.len.1; unfold Okn at hn; omega
 have hlb:lb≤4294967296:=by have:=hyv.len.1; unfold Okn at hm; omega
 have HX0:=Lib.hid hx0
 have HX1:=Lib.hid hx1
 have HXV:=Lib.hid hxv
 have HY0:=Lib.hid hy0
 have HY1:=Lib.hid hy1
 have HYV:=Lib.hid hyv
 have HZ:=Lib.hid hz
 clear hx hy hx0 hx1 hxv hy0 hy1 hyv hz hn hm
 by_cases hs:decide (n<0)=neg
 · have HF:Hid (sg neg (n.natAbs+m.natAbs)=n+sg neg m.natAbs):=by
    subst hs
    by_cases h:n<0
    · simp only [h,decide_true,sg,Hid]; simp; omega
    · simp only [h,decide_false,sg,Hid]; simp; omega
   have hbb:(decide (n<0)==neg)=true:=by rw [hs]; exact beq_self_eq_true neg
   have hc:=HX0.out
   clear hs
   go_enter Tryz.func343,Tryz.ntmps343
   go_wp2
   clear hc
   refine wp_region_acts 11 (fun w'=>Below w.heap.size w w') (fun w w'=>Below w.heap.size w w') (fun i w v=>match i with
     | 0=>v=.pointer (some ⟨b,o,none⟩)
     | 1=>v=.bool neg
     | 2=>v=.pointer (some ⟨c,p,none⟩)
     | 3=>v=.pointer (some ⟨c,p,none⟩)
     | 4=>v=.pointer (some ⟨c,p+1,none⟩)
     | 5=>v=.slice A la ca
     | 6=>v=.pointer (some ⟨d,q,none⟩)
     | 7=>v=.pointer (some ⟨d,q,none⟩)
     | 8=>v=.pointer (some ⟨d,q+1,none⟩)
     | 9=>v=.slice B lb cb
     | _=>∃ A' m' c' zs,v=.slice A' m' c'∧Words w (.slice A' m' c') zs∧val zs=val (dig n.natAbs)+val (dig m.natAbs)) (by kernel_rfl) (by kernel_rfl) (by kernel_rfl) ((Below.refl _ _).drew) (fun _ _=>Below.refl _ _) ?_ ⟨?_,?_,?_,?_,?_,?_,?_,?_,?_,?_,?_,trivial⟩ ?_
   · intro i w1 w2 v hC hC2 hE hV
     match i with
     | 0=>exact hV
     | 1=>exact hV
     | 2=>exact hV
     | 3=>exact hV
     | 4=>exact hV
     | 5=>exact hV
     | 6=>exact hV
     | 7=>exact hV
     | 8=>exact hV
     | 9=>exact hV
     | _+10=>obtain ⟨A',m',c',zs,e,h,hz⟩:=hV; exact ⟨A',m',c',zs,e,h.below hE,hz⟩
   · intro a' w' hag hC hd K hK
     have e0:a'.tmps.getD 0 undef=.pointer (some ⟨b,o,none⟩):=hag 0 rfl
     go_step
     exact hK _ _ hC (Below.refl _ _) rfl
   · intro a' w' hag hC hd K hK
     have e3:a'.tmps.getD 3 undef=.bool neg:=hag 3 rfl
     go_step
     exact hK _ _ hC (Below.refl _ _) rfl
   · intro a' w' hag hC hd K hK
     have e1:a'.tmps.getD 1 undef=.pointer (some ⟨c,p,none⟩):=hag 1 rfl
     go_step
     exact hK _ _ hC (Below.refl _ _) rfl
   · intro a' w' hag hC hd K hK
     have e18:a'.tmps.getD 18 undef=.pointer (some ⟨c,p,none⟩):=hd.1
     go_step
     exact hK _ _ hC (Below.refl _ _) rfl
   · intro a' w' hag hC hd K hK
     have e19:a'.tmps.getD 19 undef=.pointer (some ⟨c,p,none⟩):=hd.1
     go_step
     exact hK _ _ hC (Below.refl _ _) rfl
   · intro a' w' hag hC hd K hK
     have e20:a'.tmps.getD 20 undef=.pointer (some ⟨c,p+1,none⟩):=hd.1
     have hcell:w'.cell? ⟨c,p+1,none⟩=some (.slice A la ca):=by rw [hC.cell (p:=⟨c,p+1,none⟩) hxl]; exact HX1.out
     have HC:=Lib.hid hC
     clear hC
     go_step
     exact hK _ _ HC.out (Below.refl _ _) rfl
   · intro a' w' hag hC hd K hK
     have e2:a'.tmps.getD 2 undef=.pointer (some ⟨d,q,none⟩):=hag 2 rfl
     go_step
     exact hK _ _ hC (Below.refl _ _) rfl
   · intro a' w' hag hC hd K hK
     have e22:a'.tmps.getD 22 undef=.pointer (some ⟨d,q,none⟩):=hd.1
     go_step
     exact hK _ _ hC (Below.refl _ _) rfl
   · intro a' w' hag hC hd K hK
     have e23:a'.tmps.getD 23 undef=.pointer (some ⟨d,q,none⟩):=hd.1
     go_step
     exact hK _ _ hC (Below.refl _ _) rfl
   · intro a' w' hag hC hd K hK
     have e24:a'.tmps.getD 24 undef=.pointer (some ⟨d,q+1,none⟩):=hd.1
     have hcell:w'.cell? ⟨d,q+1,none⟩=some (.slice B lb cb):=by rw [hC.cell (p:=⟨d,q+1,none⟩) hyl]; exact HY1.out
     have HC:=Lib.hid hC
     clear hC
     go_step
     exact hK _ _ HC.out (Below.refl _ _) rfl
   · intro a' w' hag hC hd K hK
     have e21:a'.tmps.getD 21 undef=.slice A la ca:=hd.1
     have e25:a'.tmps.getD 25 undef=.slice B lb cb:=hd.2.1
     go_step
     refine (more_any (HXV.out.below hC) (HYV.out.below hC) (by omega) (by omega)).mono ?_
     rintro e w2 ⟨v,zs,rfl,h1,h2,h3⟩
     obtain ⟨A',m',c',rfl⟩:=h1.form
     exact hK _ _ (hC.trans (h3.mono hC.size)) h3 ⟨_,_,_,_,rfl,h1,h2⟩
   · intro u w' hC hall
     obtain ⟨u0,u1,u2,u3,u4,u5,u6,u7,u8,u9,u10,_⟩:=hall
     have u0:u 0=.pointer (some ⟨b,o,none⟩):=u0
     have u1:u 1=.bool neg:=u1
     have u2:u 2=.pointer (some ⟨c,p,none⟩):=u2
     have u3:u 3=.pointer (some ⟨c,p,none⟩):=u3
     have u4:u 4=.pointer (some ⟨c,p+1,none⟩):=u4
     have u5:u 5=.slice A la ca:=u5
     have u6:u 6=.pointer (some ⟨d,q,none⟩):=u6
     have u7:u 7=.pointer (some ⟨d,q,none⟩):=u7
     have u8:u 8=.pointer (some ⟨d,q+1,none⟩):=u8
     have u9:u 9=.slice B lb cb:=u9
     obtain ⟨A',m',c',zs,eu10,hw',hzs⟩:=u10
     have u10:u 10=.slice A' m' c':=eu10
     simp only [fillR,List.take_succ_cons,List.take_zero,Act.put,List.setIfInBounds_toArray,List.set_cons_succ,List.set_cons_zero,Nat.zero_add,Nat.reduceAdd,u0,u1,u2,u3,u4,u5,u6,u7,u8,u9,u10]
     clear u0 u1 u2 u3 u4 u5 u6 u7 u8 u9 u10
     have HW:=Lib.hid hw'
     have HC:=Lib.hid hC
     have hsl:=HZ.out.on hC
     have HZS:=Lib.hid hzs
     clear hw' hC hzs
     go_wp2_with (go_at_call 354; refine (is_any _ hsl HW.out).mono ?_; rintro e w2 ⟨rfl,h1,h2⟩)
     go_ret
     refine ⟨rfl,?_,(Touch.of_below HC.out _ _ _).trans h2⟩
     rw [HZS.out,val_dig,val_dig] at h1
     rw [← HF.out]
     exact h1
 · have hbb:(decide (n<0)==neg)=false:=by rw [beq_eq_false_iff_ne]; exact hs
   have hc:=HX0.out
   have HS:=Lib.hid hs
   clear hs
   go_enter Tryz.func343,Tryz.ntmps343
   go_wp2
   clear hc hbb
   refine wp_region_acts 9 (fun w'=>Below w.heap.size w w') (fun w w'=>Below w.heap.size w w') (fun i w v=>match i with
     | 0=>v=.pointer (some ⟨c,p,none⟩)
     | 1=>v=.pointer (some ⟨c,p,none⟩)
     | 2=>v=.pointer (some ⟨c,p+1,none⟩)
     | 3=>v=.slice A la ca
     | 4=>v=.pointer (some ⟨d,q,none⟩)
     | 5=>v=.pointer (some ⟨d,q,none⟩)
     | 6=>v=.pointer (some ⟨d,q+1,none⟩)
     | 7=>v=.slice B lb cb
     | _=>v=.int .i64 (cmpN n.natAbs m.natAbs)) (by kernel_rfl) (by kernel_rfl) (by kernel_rfl) ((Below.refl _ _).drew) (fun _ _=>Below.refl _ _) ?_ ⟨?_,?_,?_,?_,?_,?_,?_,?_,?_,trivial⟩ ?_
   · intro i w1 w2 v hC hC2 hE hV
     match i with
     | 0=>exact hV
     | 1=>exact hV
     | 2=>exact hV
     | 3=>exact hV
     | 4=>exact hV
     | 5=>exact hV
     | 6=>exact hV
     | 7=>exact hV
     | _+8=>exact hV
   · intro a' w' hag hC hd K hK
     have e1:a'.tmps.getD 1 undef=.pointer (some ⟨c,p,none⟩):=hag 1 rfl
     go_step
     exact hK _ _ hC (Below.refl _ _) rfl
   · intro a' w' hag hC hd K hK
     have e29:a'.tmps.getD 29 undef=.pointer (some ⟨c,p,none⟩):=hd.1
     go_step
     exact hK _ _ hC (Below.refl _ _) rfl
   · intro a' w' hag hC hd K hK
     have e30:a'.tmps.getD 30 undef=.pointer (some ⟨c,p,none⟩):=hd.1
     go_step
     exact hK _ _ hC (Below.refl _ _) rfl
   · intro a' w' hag hC hd K hK
     have e31:a'.tmps.getD 31 undef=.pointer (some ⟨c,p+1,none⟩):=hd.1
     have hcell:w'.cell? ⟨c,p+1,none⟩=some (.slice A la ca):=by rw [hC.cell (p:=⟨c,p+1,none⟩) hxl]; exact HX1.out
     have HC:=Lib.hid hC
     clear hC
     go_step
     exact hK _ _ HC.out (Below.refl _ _) rfl
   · intro a' w' hag hC hd K hK
     have e2:a'.tmps.getD 2 undef=.pointer (some ⟨d,q,none⟩):=hag 2 rfl
     go_step
     exact hK _ _ hC (Below.refl _ _) rfl
   · intro a' w' hag hC hd K hK
     have e33:a'.tmps.getD 33 undef=.pointer (some ⟨d,q,none⟩):=hd.1
     go_step
     exact hK _ _ hC (Below.refl _ _) rfl
   · intro a' w' hag hC hd K hK
     have e34:a'.tmps.getD 34 undef=.pointer (some ⟨d,q,none⟩):=hd.1
     go_step
     exact hK _ _ hC (Below.refl _ _) rfl
   · intro a' w' hag hC hd K hK
     have e35:a'.tmps.getD 35 undef=.pointer (some ⟨d,q+1,none⟩):=hd.1
     have hcell:w'.cell? ⟨d,q+1,none⟩=some (.slice B lb cb):=by rw [hC.cell (p:=⟨d,q+1,none⟩) hyl]; exact HY1.out
     have HC:=Lib.hid hC
     clear hC
     go_step
     exact hK _ _ HC.out (Below.refl _ _) rfl
   · intro a' w' hag hC hd K hK
     have e32:a'.tmps.getD 32 undef=.slice A la ca:=hd.1
     have e36:a'.tmps.getD 36 undef=.slice B lb cb:=hd.2.1
     go_step
     refine (under_any (HXV.out.below hC) (HYV.out.below hC)).mono ?_
     rintro e w2 ⟨rfl,h1⟩
     exact hK _ _ (hC.trans (h1.below _)) (h1.below _) rfl
   · intro u w' hC hall
     obtain ⟨u0,u1,u2,u3,u4,u5,u6,u7,u8,_⟩:=hall
     have u0:u 0=.pointer (some ⟨c,p,none⟩):=u0
     have u1:u 1=.pointer (some ⟨c,p,none⟩):=u1
     have u2:u 2=.pointer (some ⟨c,p+1,none⟩):=u2
     have u3:u 3=.slice A la ca:=u3
     have u4:u 4=.pointer (some ⟨d,q,none⟩):=u4
     have u5:u 5=.pointer (some ⟨d,q,none⟩):=u5
     have u6:u 6=.pointer (some ⟨d,q+1,none⟩):=u6
     have u7:u 7=.slice B lb cb:=u7
     have u8:u 8=.int .i64 (cmpN n.natAbs m.natAbs):=u8
     simp only [fillR,List.take_succ_cons,List.take_zero,Act.put,List.setIfInBounds_toArray,List.set_cons_succ,List.set_cons_zero,Nat.zero_add,Nat.reduceAdd,u0,u1,u2,u3,u4,u5,u6,u7,u8]
     clear u0 u1 u2 u3 u4 u5 u6 u7 u8
     have HB3:=Lib.hid hC
     have HX0:=Lib.hid ((hC.cell (p:=⟨c,p,none⟩) hxl).trans HX0.out)
     have HX1:=Lib.hid ((hC.cell (p:=⟨c,p+1,none⟩) hxl).trans HX1.out)
     have HY1:=Lib.hid ((hC.cell (p:=⟨d,q+1,none⟩) hyl).trans HY1.out)
     have HXV:=Lib.hid (HXV.out.below hC)
     have HYV:=Lib.hid (HYV.out.below hC)
     have HZ:=Lib.hid (HZ.out.on hC)
     have hxl:=Nat.lt_of_lt_of_le hxl hC.size
     have hyl:=Nat.lt_of_lt_of_le hyl hC.size
     obtain ⟨w3,rfl⟩:∃ w3,w3=w':=⟨_,rfl⟩
     clear hC
     rcases Nat.lt_or_ge n.natAbs m.natAbs with hlt | hge
     · have hd:=cmpN_lss hlt
       have HF:Hid (sg neg (m.natAbs-n.natAbs)=n+sg neg m.natAbs):=by
        have hs:=HS.out
        cases neg<;>simp at hs<;>simp only [sg,Hid]<;>simp<;>omega
       have hLE:Hid (val (dig n.natAbs)≤val (dig m.natAbs)):=by rw [val_dig,val_dig]; exact Nat.le_of_lt hlt
       have hLL:la≤lb:=by rw [HXV.out.len.1,HYV.out.len.1]; exact dig_len_mono _ _ (Nat.le_of_lt hlt)
       clear hlt
       go_wp2
       clear hd
       refine wp_region_acts 11 (fun w'=>Below w3.heap.size w3 w') (fun w w'=>Below w.heap.size w w') (fun i w v=>match i with
         | 0=>v=.pointer (some ⟨b,o,none⟩)
         | 1=>v=.bool neg
         | 2=>v=.pointer (some ⟨d,q,none⟩)
         | 3=>v=.pointer (some ⟨d,q,none⟩)
         | 4=>v=.pointer (some ⟨d,q+1,none⟩)
         | 5=>v=.slice B lb cb
         | 6=>v=.pointer (some ⟨c,p,none⟩)
         | 7=>v=.pointer (some ⟨c,p,none⟩)
         | 8=>v=.pointer (some ⟨c,p+1,none⟩)
         | 9=>v=.slice A la ca
         | _=>∃ A' m' c' zs,v=.slice A' m' c'∧Words w (.slice A' m' c') zs∧val zs=val (dig m.natAbs)-val (dig n.natAbs)) (by kernel_rfl) (by kernel_rfl) (by kernel_rfl) ((Below.refl _ _).drew) (fun _ _=>Below.refl _ _) ?_ ⟨?_,?_,?_,?_,?_,?_,?_,?_,?_,?_,?_,trivial⟩ ?_
       · intro i w1 w2 v hC hC2 hE hV
         match i with
         | 0=>exact hV
         | 1=>exact hV
         | 2=>exact hV
         | 3=>exact hV
         | 4=>exact hV
         | 5=>exact hV
         | 6=>exact hV
         | 7=>exact hV
         | 8=>exact hV
         | 9=>exact hV
         | _+10=>obtain ⟨A',m',c',zs,e,h,hz⟩:=hV; exact ⟨A',m',c',zs,e,h.below hE,hz⟩
       · intro a' w' hag hC hd K hK
         have e0:a'.tmps.getD 0 undef=.pointer (some ⟨b,o,none⟩):=hag 0 rfl
         go_step
         exact hK _ _ hC (Below.refl _ _) rfl
       · intro a' w' hag hC hd K hK
         have e3:a'.tmps.getD 3 undef=.bool neg:=hag 3 rfl
         go_step
         exact hK _ _ hC (Below.refl _ _) rfl
       · intro a' w' hag hC hd K hK
         have e2:a'.tmps.getD 2 undef=.pointer (some ⟨d,q,none⟩):=hag 2 rfl
         go_step
         exact hK _ _ hC (Below.refl _ _) rfl
       · intro a' w' hag hC hd K hK
         have e56:a'.tmps.getD 56 undef=.pointer (some ⟨d,q,none⟩):=hd.1
         go_step
         exact hK _ _ hC (Below.refl _ _) rfl
       · intro a' w' hag hC hd K hK
         have e57:a'.tmps.getD 57 undef=.pointer (some ⟨d,q,none⟩):=hd.1
         go_step
         exact hK _ _ hC (Below.refl _ _) rfl
       · intro a' w' hag hC hd K hK
         have e58:a'.tmps.getD 58 undef=.pointer (some ⟨d,q+1,none⟩):=hd.1
         have hcell:w'.cell? ⟨d,q+1,none⟩=some (.slice B lb cb):=by rw [hC.cell (p:=⟨d,q+1,none⟩) hyl]; exact HY1.out
         have HC:=Lib.hid hC
         clear hC
         go_step
         exact hK _ _ HC.out (Below.refl _ _) rfl
       · intro a' w' hag hC hd K hK
         have e1:a'.tmps.getD 1 undef=.pointer (some ⟨c,p,none⟩):=hag 1 rfl
         go_step
         exact hK _ _ hC (Below.refl _ _) rfl
       · intro a' w' hag hC hd K hK
         have e60:a'.tmps.getD 60 undef=.pointer (some ⟨c,p,none⟩):=hd.1
         go_step
         exact hK _ _ hC (Below.refl _ _) rfl
       · intro a' w' hag hC hd K hK
         have e61:a'.tmps.getD 61 undef=.pointer (some ⟨c,p,none⟩):=hd.1
         go_step
         exact hK _ _ hC (Below.refl _ _) rfl
       · intro a' w' hag hC hd K hK
         have e62:a'.tmps.getD 62 undef=.pointer (some ⟨c,p+1,none⟩):=hd.1
         have hcell:w'.cell? ⟨c,p+1,none⟩=some (.slice A la ca):=by rw [hC.cell (p:=⟨c,p+1,none⟩) hxl]; exact HX1.out
         have HC:=Lib.hid hC
         clear hC
         go_step
         exact hK _ _ HC.out (Below.refl _ _) rfl
       · intro a' w' hag hC hd K hK
         have e59:a'.tmps.getD 59 undef=.slice B lb cb:=hd.1
         have e63:a'.tmps.getD 63 undef=.slice A la ca:=hd.2.1
         go_step
         refine (less_any (HYV.out.below hC) (HXV.out.below hC) (by omega) hLE.out hLL).mono ?_
         rintro e w2 ⟨v,zs,rfl,h1,h2,h3⟩
         obtain ⟨A',m',c',rfl⟩:=h1.form
         exact hK _ _ (hC.trans (h3.mono hC.size)) h3 ⟨_,_,_,_,rfl,h1,h2⟩
       · intro u w' hC hall
         obtain ⟨u0,u1,u2,u3,u4,u5,u6,u7,u8,u9,u10,_⟩:=hall
         have u0:u 0=.pointer (some ⟨b,o,none⟩):=u0
         have u1:u 1=.bool neg:=u1
         have u2:u 2=.pointer (some ⟨d,q,none⟩):=u2
         have u3:u 3=.pointer (some ⟨d,q,none⟩):=u3
         have u4:u 4=.pointer (some ⟨d,q+1,none⟩):=u4
         have u5:u 5=.slice B lb cb:=u5
         have u6:u 6=.pointer (some ⟨c,p,none⟩):=u6
         have u7:u 7=.pointer (some ⟨c,p,none⟩):=u7
         have u8:u 8=.pointer (some ⟨c,p+1,none⟩):=u8
         have u9:u 9=.slice A la ca:=u9
         obtain ⟨A',m',c',zs,eu10,hw',hzs⟩:=u10
         have u10:u 10=.slice A' m' c':=eu10
         simp only [fillR,List.take_succ_cons,List.take_zero,Act.put,List.setIfInBounds_toArray,List.set_cons_succ,List.set_cons_zero,Nat.zero_add,Nat.reduceAdd,u0,u1,u2,u3,u4,u5,u6,u7,u8,u9,u10]
         clear u0 u1 u2 u3 u4 u5 u6 u7 u8 u9 u10
         have HW:=Lib.hid hw'
         have HC:=Lib.hid hC
         have hsl:=HZ.out.on hC
         have HZS:=Lib.hid hzs
         clear hw' hC hzs
         go_wp2_with (go_at_call 354; refine (is_any _ hsl HW.out).mono ?_; rintro e w2 ⟨rfl,h1,h2⟩)
         go_ret
         refine ⟨rfl,?_,(Touch.of_below (HB3.out.trans (HC.out.mono HB3.out.size)) _ _ _).trans h2⟩
         rw [HZS.out,val_dig,val_dig] at h1
         rw [← HF.out]
         exact h1
     · have hd:=cmpN_geq hge
       have HF:Hid (sg (decide (n<0)) (n.natAbs-m.natAbs)=n+sg neg m.natAbs):=by
        have hs:=HS.out
        cases neg<;>simp at hs<;>simp only [sg,Hid]<;>simp [hs]<;>omega
       have hLE:Hid (val (dig m.natAbs)≤val (dig n.natAbs)):=by rw [val_dig,val_dig]; exact hge
       have hLL:lb≤la:=by rw [HXV.out.len.1,HYV.out.len.1]; exact dig_len_mono _ _ hge
       clear hge
       go_wp2
       clear hd
       refine wp_region_acts 14 (fun w'=>Below w3.heap.size w3 w') (fun w w'=>Below w.heap.size w w') (fun i w v=>match i with
         | 0=>v=.pointer (some ⟨b,o,none⟩)
         | 1=>v=.pointer (some ⟨c,p,none⟩)
         | 2=>v=.pointer (some ⟨c,p,none⟩)
         | 3=>v=.pointer (some ⟨c,p,none⟩)
         | 4=>v=.bool (decide (n<0))
         | 5=>v=.pointer (some ⟨c,p,none⟩)
         | 6=>v=.pointer (some ⟨c,p,none⟩)
         | 7=>v=.pointer (some ⟨c,p+1,none⟩)
         | 8=>v=.slice A la ca
         | 9=>v=.pointer (some ⟨d,q,none⟩)
         | 10=>v=.pointer (some ⟨d,q,none⟩)
         | 11=>v=.pointer (some ⟨d,q+1,none⟩)
         | 12=>v=.slice B lb cb
         | _=>∃ A' m' c' zs,v=.slice A' m' c'∧Words w (.slice A' m' c') zs∧val zs=val (dig n.natAbs)-val (dig m.natAbs)) (by kernel_rfl) (by kernel_rfl) (by kernel_rfl) ((Below.refl _ _).drew) (fun _ _=>Below.refl _ _) ?_ ⟨?_,?_,?_,?_,?_,?_,?_,?_,?_,?_,?_,?_,?_,?_,trivial⟩ ?_
       · intro i w1 w2 v hC hC2 hE hV
         match i with
         | 0=>exact hV
         | 1=>exact hV
         | 2=>exact hV
         | 3=>exact hV
         | 4=>exact hV
         | 5=>exact hV
         | 6=>exact hV
         | 7=>exact hV
         | 8=>exact hV
         | 9=>exact hV
         | 10=>exact hV
         | 11=>exact hV
         | 12=>exact hV
         | _+13=>obtain ⟨A',m',c',zs,e,h,hz⟩:=hV; exact ⟨A',m',c',zs,e,h.below hE,hz⟩
       · intro a' w' hag hC hd K hK
         have e0:a'.tmps.getD 0 undef=.pointer (some ⟨b,o,none⟩):=hag 0 rfl
         go_step
         exact hK _ _ hC (Below.refl _ _) rfl
       · intro a' w' hag hC hd K hK
         have e1:a'.tmps.getD 1 undef=.pointer (some ⟨c,p,none⟩):=hag 1 rfl
         go_step
         exact hK _ _ hC (Below.refl _ _) rfl
       · intro a' w' hag hC hd K hK
         have e40:a'.tmps.getD 40 undef=.pointer (some ⟨c,p,none⟩):=hd.1
         go_step
         exact hK _ _ hC (Below.refl _ _) rfl
       · intro a' w' hag hC hd K hK
         have e41:a'.tmps.getD 41 undef=.pointer (some ⟨c,p,none⟩):=hd.1
         go_step
         exact hK _ _ hC (Below.refl _ _) rfl
       · intro a' w' hag hC hd K hK
         have e42:a'.tmps.getD 42 undef=.pointer (some ⟨c,p,none⟩):=hd.1
         have hcell:w'.cell? ⟨c,p,none⟩=some (.bool (decide (n<0))):=by rw [hC.cell (p:=⟨c,p,none⟩) hxl]; exact HX0.out
         have HC:=Lib.hid hC
         clear hC
         go_step
         exact hK _ _ HC.out (Below.refl _ _) rfl
       · intro a' w' hag hC hd K hK
         have e1:a'.tmps.getD 1 undef=.pointer (some ⟨c,p,none⟩):=hag 1 rfl
         go_step
         exact hK _ _ hC (Below.refl _ _) rfl
       · intro a' w' hag hC hd K hK
         have e44:a'.tmps.getD 44 undef=.pointer (some ⟨c,p,none⟩):=hd.1
         go_step
         exact hK _ _ hC (Below.refl _ _) rfl
       · intro a' w' hag hC hd K hK
         have e45:a'.tmps.getD 45 undef=.pointer (some ⟨c,p,none⟩):=hd.1
         go_step
         exact hK _ _ hC (Below.refl _ _) rfl
       · intro a' w' hag hC hd K hK
         have e46:a'.tmps.getD 46 undef=.pointer (some ⟨c,p+1,none⟩):=hd.1
         have hcell:w'.cell? ⟨c,p+1,none⟩=some (.slice A la ca):=by rw [hC.cell (p:=⟨c,p+1,none⟩) hxl]; exact HX1.out
         have HC:=Lib.hid hC
         clear hC
         go_step
         exact hK _ _ HC.out (Below.refl _ _) rfl
       · intro a' w' hag hC hd K hK
         have e2:a'.tmps.getD 2 undef=.pointer (some ⟨d,q,none⟩):=hag 2 rfl
         go_step
         exact hK _ _ hC (Below.refl _ _) rfl
       · intro a' w' hag hC hd K hK
         have e48:a'.tmps.getD 48 undef=.pointer (some ⟨d,q,none⟩):=hd.1
         go_step
         exact hK _ _ hC (Below.refl _ _) rfl
       · intro a' w' hag hC hd K hK
         have e49:a'.tmps.getD 49 undef=.pointer (some ⟨d,q,none⟩):=hd.1
         go_step
         exact hK _ _ hC (Below.refl _ _) rfl
       · intro a' w' hag hC hd K hK
         have e50:a'.tmps.getD 50 undef=.pointer (some ⟨d,q+1,none⟩):=hd.1
         have hcell:w'.cell? ⟨d,q+1,none⟩=some (.slice B lb cb):=by rw [hC.cell (p:=⟨d,q+1,none⟩) hyl]; exact HY1.out
         have HC:=Lib.hid hC
         clear hC
         go_step
         exact hK _ _ HC.out (Below.refl _ _) rfl
       · intro a' w' hag hC hd K hK
         have e47:a'.tmps.getD 47 undef=.slice A la ca:=hd.1
         have e51:a'.tmps.getD 51 undef=.slice B lb cb:=hd.2.1
         go_step
         refine (less_any (HXV.out.below hC) (HYV.out.below hC) (by omega) hLE.out hLL).mono ?_
         rintro e w2 ⟨v,zs,rfl,h1,h2,h3⟩
         obtain ⟨A',m',c',rfl⟩:=h1.form
         exact hK _ _ (hC.trans (h3.mono hC.size)) h3 ⟨_,_,_,_,rfl,h1,h2⟩
       · intro u w' hC hall
         obtain ⟨u0,u1,u2,u3,u4,u5,u6,u7,u8,u9,u10,u11,u12,u13,_⟩:=hall
         have u0:u 0=.pointer (some ⟨b,o,none⟩):=u0
         have u1:u 1=.pointer (some ⟨c,p,none⟩):=u1
         have u2:u 2=.pointer (some ⟨c,p,none⟩):=u2
         have u3:u 3=.pointer (some ⟨c,p,none⟩):=u3
         have u4:u 4=.bool (decide (n<0)):=u4
         have u5:u 5=.pointer (some ⟨c,p,none⟩):=u5
         have u6:u 6=.pointer (some ⟨c,p,none⟩):=u6
         have u7:u 7=.pointer (some ⟨c,p+1,none⟩):=u7
         have u8:u 8=.slice A la ca:=u8
         have u9:u 9=.pointer (some ⟨d,q,none⟩):=u9
         have u10:u 10=.pointer (some ⟨d,q,none⟩):=u10
         have u11:u 11=.pointer (some ⟨d,q+1,none⟩):=u11
         have u12:u 12=.slice B lb cb:=u12
         obtain ⟨A',m',c',zs,eu13,hw',hzs⟩:=u13
         have u13:u 13=.slice A' m' c':=eu13
         simp only [fillR,List.take_succ_cons,List.take_zero,Act.put,List.setIfInBounds_toArray,List.set_cons_succ,List.set_cons_zero,Nat.zero_add,Nat.reduceAdd,u0,u1,u2,u3,u4,u5,u6,u7,u8,u9,u10,u11,u12,u13]
         clear u0 u1 u2 u3 u4 u5 u6 u7 u8 u9 u10 u11 u12 u13
         have HW:=Lib.hid hw'
         have HC:=Lib.hid hC
         have hsl:=HZ.out.on hC
         have HZS:=Lib.hid hzs
         clear hw' hC hzs
         go_wp2_with (go_at_call 354; refine (is_any _ hsl HW.out).mono ?_; rintro e w2 ⟨rfl,h1,h2⟩)
         go_ret
         refine ⟨rfl,?_,(Touch.of_below (HB3.out.trans (HC.out.mono HB3.out.size)) _ _ _).trans h2⟩
         rw [HZS.out,val_dig,val_dig] at h1
         rw [← HF.out]
         exact h1
theorem sg_not (m:Int):sg (!decide (m<0)) m.natAbs = -m:=by
 by_cases h:m<0
 · simp [sg,h]; omega
 · simp [sg,h]; omega
theorem Add_any {w:World} {b o c p d q:Nat} {n m:Int} (hz:Slot w b o 2) (hx:IntAt w c p n) (hy:IntAt w d q m) (hn:Okn n) (hm:Okn m) :
  Calls Tryz.prog 335 #[.pointer (some ⟨b,o,none⟩),.pointer (some ⟨c,p,none⟩),.pointer (some ⟨d,q,none⟩)] w fun e w'=>e=.returned (.pointer (some ⟨b,o,none⟩))∧IntAt w' b o (n+m)∧Touch w w' b o 2:=by
 have hc:=hy.2.1
 have H:=Lib.hid (add_any (decide (m<0)) hz hx hy hn hm)
 clear hx hy hz hn hm
 go_enter Tryz.func335,Tryz.ntmps335
 go_wp2_with (go_at_call 343; refine H.out.mono ?_; rintro e w1 ⟨rfl,h1,h2⟩)
 go_ret
 rw [sg_of] at h1
 exact ⟨rfl,h1,h2⟩
theorem Sub_any {w:World} {b o c p d q:Nat} {n m:Int} (hz:Slot w b o 2) (hx:IntAt w c p n) (hy:IntAt w d q m) (hn:Okn n) (hm:Okn m) :
  Calls Tryz.prog 263 #[.pointer (some ⟨b,o,none⟩),.pointer (some ⟨c,p,none⟩),.pointer (some ⟨d,q,none⟩)] w fun e w'=>e=.returned (.pointer (some ⟨b,o,none⟩))∧IntAt w' b o (n-m)∧Touch w w' b o 2:=by
 have hc:=hy.2.1
 have H:=Lib.hid (add_any (!decide (m<0)) hz hx hy hn hm)
 clear hx hy hz hn hm
 obtain ⟨s,hs⟩:∃ s,s=decide (m<0):=⟨_,rfl⟩
 rw [← hs] at hc H
 have HS:=Lib.hid hs
 clear hs
 go_enter Tryz.func263,Tryz.ntmps263
 go_wp2_with (go_at_call 343; refine H.out.mono ?_; rintro e w1 ⟨rfl,h1,h2⟩)
 go_ret
 rw [HS.out,sg_not] at h1
 exact ⟨rfl,h1,h2⟩
def cmpI (n m:Int):Int:=if n<m then -1 else if m<n then 1 else 0
theorem cmpI_neg {n m:Int} (h:n<0) (k:m<0):cmpN m.natAbs n.natAbs=cmpI n m:=by
 unfold cmpN cmpI
 by_cases h1:n<m
 · rw [if_pos h1,if_pos (by omega)]
 · rw [if_neg h1,if_neg (by omega)]
   by_cases h2:m<n
   · rw [if_pos h2,if_pos (by omega)]
   · rw [if_neg h2,if_neg (by omega)]
theorem cmpI_pos {n m:Int} (h:¬ n<0) (k:¬ m<0):cmpN n.natAbs m.natAbs=cmpI n m:=by
 unfold cmpN cmpI
 by_cases h1:n<m
 · rw [if_pos h1,if_pos (by omega)]
 · rw [if_neg h1,if_neg (by omega)]
   by_cases h2:m<n
   · rw [if_pos h2,if_pos (by omega)]
   · rw [if_neg h2,if_neg (by omega)]
theorem Cmp_any {w:World} {c p d q:Nat} {n m:Int} (hx:IntAt w c p n) (hy:IntAt w d q m) :
  Calls Tryz.prog 342 #[.pointer (some ⟨c,p,none⟩),.pointer (some ⟨d,q,none⟩)] w fun e w'=>e=.returned (.int .i64 (cmpI n m))∧Below w.heap.size w w':=by
 obtain ⟨A,la,ca,hx0,hx1,hxv,hxl⟩:=hx.open_
 obtain ⟨B,lb,cb,hy0,hy1,hyv,hyl⟩:=hy.open_
 have HX1:=Lib.hid hx1
 have HXV:=Lib.hid hxv
 have HY1:=Lib.hid hy1
 have HYV:=Lib.hid hyv
 clear hx hy hx1 hxv hy1 hyv
 by_cases h:n<0<;>by_cases k:m<0
 · have HF:=Lib.hid (cmpI_neg h k)
   rw [decide_eq_true h] at hx0
   rw [decide_eq_true k] at hy0
   clear h k
   go_enter Tryz.func342,Tryz.ntmps342
   go_wp2
   clear hx0 hy0
   refine wp_region_acts 9 (fun w'=>Below w.heap.size w w') (fun w w'=>Below w.heap.size w w') (fun i w v=>match i with
     | 0=>v=.pointer (some ⟨d,q,none⟩)
     | 1=>v=.pointer (some ⟨d,q,none⟩)
     | 2=>v=.pointer (some ⟨d,q+1,none⟩)
     | 3=>v=.slice B lb cb
     | 4=>v=.pointer (some ⟨c,p,none⟩)
     | 5=>v=.pointer (some ⟨c,p,none⟩)
     | 6=>v=.pointer (some ⟨c,p+1,none⟩)
     | 7=>v=.slice A la ca
     | _=>v=.int .i64 (cmpN m.natAbs n.natAbs)) (by kernel_rfl) (by kernel_rfl) (by kernel_rfl) ((Below.refl _ _).drew) (fun _ _=>Below.refl _ _) ?_ ⟨?_,?_,?_,?_,?_,?_,?_,?_,?_,trivial⟩ ?_
   · intro i w1 w2 v hC hC2 hE hV
     match i with
     | 0=>exact hV
     | 1=>exact hV
     | 2=>exact hV
     | 3=>exact hV
     | 4=>exact hV
     | 5=>exact hV
     | 6=>exact hV
     | 7=>exact hV
     | _+8=>exact hV
   · intro a' w' hag hC hd K hK
     have e1:a'.tmps.getD 1 undef=.pointer (some ⟨d,q,none⟩):=hag 1 rfl
     go_step
     exact hK _ _ hC (Below.refl _ _) rfl
   · intro a' w' hag hC hd K hK
     have e16:a'.tmps.getD 16 undef=.pointer (some ⟨d,q,none⟩):=hd.1
     go_step
     exact hK _ _ hC (Below.refl _ _) rfl
   · intro a' w' hag hC hd K hK
     have e17:a'.tmps.getD 17 undef=.pointer (some ⟨d,q,none⟩):=hd.1
     go_step
     exact hK _ _ hC (Below.refl _ _) rfl
   · intro a' w' hag hC hd K hK
     have e18:a'.tmps.getD 18 undef=.pointer (some ⟨d,q+1,none⟩):=hd.1
     have hcell:w'.cell? ⟨d,q+1,none⟩=some (.slice B lb cb):=by rw [hC.cell (p:=⟨d,q+1,none⟩) hyl]; exact HY1.out
     have HC:=Lib.hid hC
     clear hC
     go_step
     exact hK _ _ HC.out (Below.refl _ _) rfl
   · intro a' w' hag hC hd K hK
     have e0:a'.tmps.getD 0 undef=.pointer (some ⟨c,p,none⟩):=hag 0 rfl
     go_step
     exact hK _ _ hC (Below.refl _ _) rfl
   · intro a' w' hag hC hd K hK
     have e20:a'.tmps.getD 20 undef=.pointer (some ⟨c,p,none⟩):=hd.1
     go_step
     exact hK _ _ hC (Below.refl _ _) rfl
   · intro a' w' hag hC hd K hK
     have e21:a'.tmps.getD 21 undef=.pointer (some ⟨c,p,none⟩):=hd.1
     go_step
     exact hK _ _ hC (Below.refl _ _) rfl
   · intro a' w' hag hC hd K hK
     have e22:a'.tmps.getD 22 undef=.pointer (some ⟨c,p+1,none⟩):=hd.1
     have hcell:w'.cell? ⟨c,p+1,none⟩=some (.slice A la ca):=by rw [hC.cell (p:=⟨c,p+1,none⟩) hxl]; exact HX1.out
     have HC:=Lib.hid hC
     clear hC
     go_step
     exact hK _ _ HC.out (Below.refl _ _) rfl
   · intro a' w' hag hC hd K hK
     have e19:a'.tmps.getD 19 undef=.slice B lb cb:=hd.1
     have e23:a'.tmps.getD 23 undef=.slice A la ca:=hd.2.1
     go_step
     refine (under_any (HYV.out.below hC) (HXV.out.below hC)).mono ?_
     rintro e w2 ⟨rfl,h1⟩
     exact hK _ _ (hC.trans (h1.below _)) (h1.below _) rfl
   · intro u w' hC hall
     obtain ⟨u0,u1,u2,u3,u4,u5,u6,u7,u8,_⟩:=hall
     have u0:u 0=.pointer (some ⟨d,q,none⟩):=u0
     have u1:u 1=.pointer (some ⟨d,q,none⟩):=u1
     have u2:u 2=.pointer (some ⟨d,q+1,none⟩):=u2
     have u3:u 3=.slice B lb cb:=u3
     have u4:u 4=.pointer (some ⟨c,p,none⟩):=u4
     have u5:u 5=.pointer (some ⟨c,p,none⟩):=u5
     have u6:u 6=.pointer (some ⟨c,p+1,none⟩):=u6
     have u7:u 7=.slice A la ca:=u7
     have u8:u 8=.int .i64 (cmpN m.natAbs n.natAbs):=u8
     simp only [fillR,List.take_succ_cons,List.take_zero,Act.put,List.setIfInBounds_toArray,List.set_cons_succ,List.set_cons_zero,Nat.zero_add,Nat.reduceAdd,u0,u1,u2,u3,u4,u5,u6,u7,u8]
     clear u0 u1 u2 u3 u4 u5 u6 u7 u8
     have HC:=Lib.hid hC
     clear hC
     go_wp2
     go_ret
     exact ⟨by rw [← HF.out]; rfl,HC.out⟩
 · have hf:cmpI n m = -1:=if_pos (by omega)
   rw [hf]
   rw [decide_eq_true h] at hx0
   rw [decide_eq_false k] at hy0
   clear h k hf
   go_enter Tryz.func342,Tryz.ntmps342
   go_wp2
   go_ret
   exact ⟨rfl,Below.refl _ _⟩
 · have hf:cmpI n m=1:=by rw [cmpI,if_neg (by omega),if_pos (by omega)]
   rw [hf]
   rw [decide_eq_false h] at hx0
   rw [decide_eq_true k] at hy0
   clear h k hf
   go_enter Tryz.func342,Tryz.ntmps342
   go_wp2
   go_ret
   exact ⟨rfl,Below.refl _ _⟩
 · have HF:=Lib.hid (cmpI_pos h k)
   rw [decide_eq_false h] at hx0
   rw [decide_eq_false k] at hy0
   clear h k
   go_enter Tryz.func342,Tryz.ntmps342
   go_wp2
   clear hx0 hy0
   refine wp_region_acts 9 (fun w'=>Below w.heap.size w w') (fun w w'=>Below w.heap.size w w') (fun i w v=>match i with
     | 0=>v=.pointer (some ⟨c,p,none⟩)
     | 1=>v=.pointer (some ⟨c,p,none⟩)
     | 2=>v=.pointer (some ⟨c,p+1,none⟩)
     | 3=>v=.slice A la ca
     | 4=>v=.pointer (some ⟨d,q,none⟩)
     | 5=>v=.pointer (some ⟨d,q,none⟩)
     | 6=>v=.pointer (some ⟨d,q+1,none⟩)
     | 7=>v=.slice B lb cb
     | _=>v=.int .i64 (cmpN n.natAbs m.natAbs)) (by kernel_rfl) (by kernel_rfl) (by kernel_rfl) ((Below.refl _ _).drew) (fun _ _=>Below.refl _ _) ?_ ⟨?_,?_,?_,?_,?_,?_,?_,?_,?_,trivial⟩ ?_
   · intro i w1 w2 v hC hC2 hE hV
     match i with
     | 0=>exact hV
     | 1=>exact hV
     | 2=>exact hV
     | 3=>exact hV
     | 4=>exact hV
     | 5=>exact hV
     | 6=>exact hV
     | 7=>exact hV
     | _+8=>exact hV
   · intro a' w' hag hC hd K hK
     have e0:a'.tmps.getD 0 undef=.pointer (some ⟨c,p,none⟩):=hag 0 rfl
     go_step
     exact hK _ _ hC (Below.refl _ _) rfl
   · intro a' w' hag hC hd K hK
     have e35:a'.tmps.getD 35 undef=.pointer (some ⟨c,p,none⟩):=hd.1
     go_step
     exact hK _ _ hC (Below.refl _ _) rfl
   · intro a' w' hag hC hd K hK
     have e36:a'.tmps.getD 36 undef=.pointer (some ⟨c,p,none⟩):=hd.1
     go_step
     exact hK _ _ hC (Below.refl _ _) rfl
   · intro a' w' hag hC hd K hK
     have e37:a'.tmps.getD 37 undef=.pointer (some ⟨c,p+1,none⟩):=hd.1
     have hcell:w'.cell? ⟨c,p+1,none⟩=some (.slice A la ca):=by rw [hC.cell (p:=⟨c,p+1,none⟩) hxl]; exact HX1.out
     have HC:=Lib.hid hC
     clear hC
     go_step
     exact hK _ _ HC.out (Below.refl _ _) rfl
   · intro a' w' hag hC hd K hK
     have e1:a'.tmps.getD 1 undef=.pointer (some ⟨d,q,none⟩):=hag 1 rfl
     go_step
     exact hK _ _ hC (Below.refl _ _) rfl
   · intro a' w' hag hC hd K hK
     have e39:a'.tmps.getD 39 undef=.pointer (some ⟨d,q,none⟩):=hd.1
     go_step
     exact hK _ _ hC (Below.refl _ _) rfl
   · intro a' w' hag hC hd K hK
     have e40:a'.tmps.getD 40 undef=.pointer (some ⟨d,q,none⟩):=hd.1
     go_step
     exact hK _ _ hC (Below.refl _ _) rfl
   · intro a' w' hag hC hd K hK
     have e41:a'.tmps.getD 41 undef=.pointer (some ⟨d,q+1,none⟩):=hd.1
     have hcell:w'.cell? ⟨d,q+1,none⟩=some (.slice B lb cb):=by rw [hC.cell (p:=⟨d,q+1,none⟩) hyl]; exact HY1.out
     have HC:=Lib.hid hC
     clear hC
     go_step
     exact hK _ _ HC.out (Below.refl _ _) rfl
   · intro a' w' hag hC hd K hK
     have e38:a'.tmps.getD 38 undef=.slice A la ca:=hd.1
     have e42:a'.tmps.getD 42 undef=.slice B lb cb:=hd.2.1
     go_step
     refine (under_any (HXV.out.below hC) (HYV.out.below hC)).mono ?_
     rintro e w2 ⟨rfl,h1⟩
     exact hK _ _ (hC.trans (h1.below _)) (h1.below _) rfl
   · intro u w' hC hall
     obtain ⟨u0,u1,u2,u3,u4,u5,u6,u7,u8,_⟩:=hall
     have u0:u 0=.pointer (some ⟨c,p,none⟩):=u0
     have u1:u 1=.pointer (some ⟨c,p,none⟩):=u1
     have u2:u 2=.pointer (some ⟨c,p+1,none⟩):=u2
     have u3:u 3=.slice A la ca:=u3
     have u4:u 4=.pointer (some ⟨d,q,none⟩):=u4
     have u5:u 5=.pointer (some ⟨d,q,none⟩):=u5
     have u6:u 6=.pointer (some ⟨d,q+1,none⟩):=u6
     have u7:u 7=.slice B lb cb:=u7
     have u8:u 8=.int .i64 (cmpN n.natAbs m.natAbs):=u8
     simp only [fillR,List.take_succ_cons,List.take_zero,Act.put,List.setIfInBounds_toArray,List.set_cons_succ,List.set_cons_zero,Nat.zero_add,Nat.reduceAdd,u0,u1,u2,u3,u4,u5,u6,u7,u8]
     clear u0 u1 u2 u3 u4 u5 u6 u7 u8
     have HC:=Lib.hid hC
     clear hC
     go_wp2
     go_ret
     exact ⟨by rw [← HF.out]; rfl,HC.out⟩
theorem wpList_append_copy {ops:Array Oper} {rest:List Oper} {o:Oper} {a:Act} {w:World} {Q:Exit→Act→World→Prop} (hg:o.guard=none) (s x:Operand)
  (ho:o.op=.call { callee:=.builtin .append,args:=#[s,x],argTypes:=#[184,184] }) (A:Option Addr) (n c:Nat) (xs:List Nat) (hs:a.eval s=.slice none 0 0) (hx:a.eval x=.slice A n c) (hw:Words w (.slice A n c) xs)
  (hK:∀ v' w',Words w' v' xs→Below w.heap.size w w'→wpList Tryz.prog ops Q rest (a.put o.dst v') w'):wpList Tryz.prog ops Q (o::rest) a w :=
 wpList_plain hg fun K hK'=>wp_append_copy s x ho hs hx hw fun v' w' h1 h2=>hK' _ _ (hK v' w' h1 h2)
set_option maxHeartbeats 400000 in
theorem gcd_any {w:World} {b o c p d q:Nat} {n m:Int} (hz:Slot w b o 2) (hx:IntAt w c p n) (hy:IntAt w d q m) (hn:Okn n) (hm:Okn m) :
  Calls Tryz.prog 331 #[.pointer (some ⟨b,o,none⟩),.pointer none,.pointer none,.pointer (some ⟨c,p,none⟩),.pointer (some ⟨d,q,none⟩)] w fun e w'=>e=.returned (.pointer (some ⟨b,o,none⟩))∧IntAt w' b o (Int.gcd n m:Int)∧Touch w w' b o 2:=by
 obtain ⟨A,la,ca,hx0,hx1,hxv,hxl⟩:=hx.open_
 obtain ⟨B,lb,cb,hy0,hy1,hyv,hyl⟩:=hy.open_
 have HXV:=Lib.hid hxv
 have HYV:=Lib.hid hyv
 have HZ:=Lib.hid hz
 have HN:=Lib.hid hn
 have HM:=Lib.hid hm
 clear hx hy hx0 hxv hy0 hyv hz hn hm
 go_enter Tryz.func331,Tryz.ntmps331
 go_wp2
 go_quiet (fail)
 clear hx1 hy1
 go_wp2
 go_loopg [11,12] (m.natAbs) (fun k x y wr=>∃ (A B:Option Addr) (la ca lb cb:Nat) (u v:Nat),x=.slice A la ca∧y=.slice B lb cb∧Hid (Words wr (.slice A la ca) (dig u))∧Hid (Words wr (.slice B lb cb) (dig v))∧Hid (Nat.gcd u v=Int.gcd n m)∧Hid (v≤k)∧Hid ((dig u).length≤4294967296)∧Hid ((dig v).length≤4294967296)∧Hid (Below w.heap.size w wr))
 case atStart=>exact ⟨A,B,la,ca,lb,cb,n.natAbs,m.natAbs,rfl,rfl,HXV.out.below (Below.drewN_ (Below.refl _ _) _),HYV.out.below (Below.drewN_ (Below.refl _ _) _),rfl,Nat.le_refl _,HN.out,HM.out,Below.drewN_ (Below.refl _ _) _⟩
 case round =>
  obtain ⟨A,B,la,ca,lb,cb,u,v,rfl,rfl,hu,hv,hg,hk,hul,hvl,hb⟩:=hrel
  have hl:=hv.out.len.1
  have hlb:=hv.out.2.1
  by_cases h0:0<lb
  · have hv0:0<v:=by
     rcases Nat.eq_zero_or_pos v with h | h
     · rw [h,dig_zero] at hl; simp at hl; omega
     · exact h
    have HV0:=Lib.hid hv0
    have hlb2:lb≤17179869184:=by omega
    clear hl hlb hv0
    go_wp2_with fail
    refine (divide_any hu.out hv.out HV0.out (by rw [hu.out.len.1]; exact hul.out)).mono ?_
    rintro e w1 ⟨v1,v2,rfl,h1,h2,h3⟩
    obtain ⟨A2,m2,c2,rfl⟩:=h2.form
    have H2:=Lib.hid h2
    have H3:=Lib.hid h3
    clear h1 h2 h3
    go_wp2
    go_roundg (u % v)
    case measure=>exact Nat.lt_of_lt_of_le (Nat.mod_lt _ HV0.out) hk.out
    case rel =>
     refine ⟨B,A2,lb,cb,m2,c2,v,u % v,rfl,rfl,hv.out.below H3.out,H2.out,?_,Nat.le_refl _,hvl.out,?_,hb.out.trans (H3.out.mono hb.out.size)⟩
     · rw [Hid,← hg.out,Nat.gcd_comm v,← Nat.gcd_rec,Nat.gcd_comm]
     · exact Nat.le_trans (dig_len_mono _ _ (Nat.le_of_lt (Nat.mod_lt _ HV0.out))) hvl.out
  · obtain rfl:lb=0:=by omega
    have hv0:=(dig_nil_iff v).1 (List.eq_nil_of_length_eq_zero hl.symm)
    subst hv0
    have hgu:=hg.out
    rw [Nat.gcd_zero_right] at hgu
    have HG:=Lib.hid hgu
    clear hl hlb hgu
    go_wp2_with (at_builtin; refine wpList_append_copy rfl (.const (.slice none 0 0)) (.tmp 35) rfl _ _ _ _ rfl rfl hu.out (fun v' w' h1 h2=>?_))
    obtain ⟨A2,m2,c2,rfl⟩:=h1.form
    have H1:=Lib.hid h1
    have H2:=Lib.hid h2
    clear h1 h2
    go_wp2_with fail
    have hz2:Slot _ b o 2:=(HZ.out.below hb.out HZ.out.lt).on H2.out
    have HB2:=Lib.hid (hb.out.trans (H2.out.mono hb.out.size))
    refine (is_any false hz2 H1.out).mono ?_
    rintro e w3 ⟨rfl,h1,h2⟩
    rw [val_dig,HG.out] at h1
    have H3:=Lib.hid h1
    have H4:=Lib.hid h2
    clear h1 h2 hz2
    go_wp2
    go_ret
    exact ⟨rfl,H3.out,(Touch.of_below HB2.out b o 2).trans H4.out⟩
theorem SetInt64_any {w:World} {b o:Nat} {n:Int} (hz:Slot w b o 2) (hr : -9223372036854775808≤n∧n≤9223372036854775807) :
  Calls Tryz.prog 334 #[.pointer (some ⟨b,o,none⟩),.int .i64 n] w fun e w'=>e=.returned (.pointer (some ⟨b,o,none⟩))∧IntAt w' b o n∧Touch w w' b o 2:=by
 have HZ:=Lib.hid hz
 have HR:=Lib.hid hr
 obtain ⟨k,hk⟩:∃ k,k=n.natAbs:=⟨_,rfl⟩
 have HKB:Hid (k≤18446744073709551615):=by unfold Hid; omega
 have HS:Hid (sg (decide (n<0)) k=n):=by unfold Hid; rw [hk,sg_of]
 by_cases h:n<0
 · have hw1:IntKind.u64.wrap n=18446744073709551616+n:=by simp [IntKind.wrap,IntKind.bits,IntKind.signed]; omega
   have hw2:IntKind.u64.wrap (-(18446744073709551616+n))=(k:Int):=by simp [IntKind.wrap,IntKind.bits,IntKind.signed]; omega
   have hd:decide (n<0)=true:=by simpa using h
   rw [hd] at HS
   clear hz hr hk
   go_enter Tryz.func334,Tryz.ntmps334
   go_wp2_with fail
   refine (of_any k HKB.out).mono ?_
   rintro e w1 ⟨v,rfl,h1,h2⟩
   obtain ⟨A,m,c,rfl⟩:=h1.form
   have hz1:=HZ.out.on h2
   have H1:=Lib.hid h1
   have H2:=Lib.hid h2
   clear h1 h2
   go_wp2_with fail
   refine (is_any true hz1 H1.out).mono ?_
   rintro e w3 ⟨rfl,h1,h2⟩
   rw [val_dig,HS.out] at h1
   have H3:=Lib.hid h1
   have H4:=Lib.hid h2
   clear h1 h2 hz1
   go_wp2
   go_ret
   exact ⟨rfl,H3.out,(Touch.of_below H2.out b o 2).trans H4.out⟩
 · have hw1:IntKind.u64.wrap n=(k:Int):=by simp [IntKind.wrap,IntKind.bits,IntKind.signed]; omega
   have hd:decide (n<0)=false:=by simpa using h
   rw [hd] at HS
   clear hz hr hk
   go_enter Tryz.func334,Tryz.ntmps334
   go_wp2_with fail
   refine (of_any k HKB.out).mono ?_
   rintro e w1 ⟨v,rfl,h1,h2⟩
   obtain ⟨A,m,c,rfl⟩:=h1.form
   have hz1:=HZ.out.on h2
   have H1:=Lib.hid h1
   have H2:=Lib.hid h2
   clear h1 h2
   go_wp2_with fail
   refine (is_any false hz1 H1.out).mono ?_
   rintro e w3 ⟨rfl,h1,h2⟩
   rw [val_dig,HS.out] at h1
   have H3:=Lib.hid h1
   have H4:=Lib.hid h2
   clear h1 h2 hz1
   go_wp2
   go_ret
   exact ⟨rfl,H3.out,(Touch.of_below H2.out b o 2).trans H4.out⟩
theorem NewInt_any {w:World} {n:Int} (hr : -9223372036854775808≤n∧n≤9223372036854775807) :
  Calls Tryz.prog 253 #[.int .i64 n] w fun e w'=>∃ b,e=.returned (.pointer (some ⟨b,0,none⟩))∧w.heap.size≤b∧IntAt w' b 0 n∧Below w.heap.size w w':=by
 have HR:=Lib.hid hr
 clear hr
 go_enter Tryz.func253,Tryz.ntmps253
 go_wp2_with fail
 refine (SetInt64_any (b:=w.heap.size) (o:=0) ?_ HR.out).mono ?_
 · exact (IntAt.new _).slot
 rintro e w1 ⟨rfl,h1,h2⟩
 have H1:=Lib.hid h1
 have H2:=Lib.hid h2
 clear h1 h2
 go_wp2
 go_ret
 exact ⟨_,rfl,Nat.le_refl _,H1.out,((Below.refl _ _).alloc (Nat.le_refl _) _).trans (H2.out.below (Nat.le_refl _) ((Below.refl w.heap.size w).alloc (Nat.le_refl _) _).size)⟩
theorem sg_tdiv (n m:Int):sg (decide (n<0) != decide (m<0)) (n.natAbs/m.natAbs)=n.tdiv m:=by
 rcases Int.lt_or_le n 0 with h | h<;>rcases Int.lt_or_le m 0 with k | k
 · obtain ⟨a,rfl⟩:∃ a:Nat,n = -(a:Int):=⟨n.natAbs,by omega⟩
   obtain ⟨c,rfl⟩:∃ c:Nat,m = -(c:Int):=⟨m.natAbs,by omega⟩
   have h1:decide (-(a:Int)<0)=true:=by simpa using h
   have h2:decide (-(c:Int)<0)=true:=by simpa using k
   rw [h1,h2,Int.tdiv_neg,Int.neg_tdiv,Int.neg_neg,← Int.ofNat_tdiv,Int.natAbs_neg,Int.natAbs_neg,Int.natAbs_natCast,Int.natAbs_natCast]
   simp [sg]
 · obtain ⟨a,rfl⟩:∃ a:Nat,n = -(a:Int):=⟨n.natAbs,by omega⟩
   obtain ⟨c,rfl⟩:∃ c:Nat,m=(c:Int):=⟨m.natAbs,by omega⟩
   have h1:decide (-(a:Int)<0)=true:=by simpa using h
   have h2:decide ((c:Int)<0)=false:=by simpa using k
   rw [h1,h2,Int.neg_tdiv,← Int.ofNat_tdiv,Int.natAbs_neg,Int.natAbs_natCast,Int.natAbs_natCast]
   simp [sg]
 · obtain ⟨a,rfl⟩:∃ a:Nat,n=(a:Int):=⟨n.natAbs,by omega⟩
   obtain ⟨c,rfl⟩:∃ c:Nat,m = -(c:Int):=⟨m.natAbs,by omega⟩
   have h1:decide ((a:Int)<0)=false:=by simpa using h
   have h2:decide (-(c:Int)<0)=true:=by simpa using k
   rw [h1,h2,Int.tdiv_neg,← Int.ofNat_tdiv,Int.natAbs_neg,Int.natAbs_natCast,Int.natAbs_natCast]
   simp [sg]
 · obtain ⟨a,rfl⟩:∃ a:Nat,n=(a:Int):=⟨n.natAbs,by omega⟩
   obtain ⟨c,rfl⟩:∃ c:Nat,m=(c:Int):=⟨m.natAbs,by omega⟩
   have h1:decide ((a:Int)<0)=false:=by simpa using h
   have h2:decide ((c:Int)<0)=false:=by simpa using k
   rw [h1,h2,← Int.ofNat_tdiv,Int.natAbs_natCast,Int.natAbs_natCast]
   simp [sg]
theorem sg_tmod (n m:Int):sg (decide (n<0)) (n.natAbs % m.natAbs)=n.tmod m:=by
 have e:n.natAbs % m.natAbs=(n.tmod m).natAbs:=by rw [Int.natAbs_tmod]
 rw [e]
 by_cases h:n<0
 · have h1:decide (n<0)=true:=by simpa using h
   obtain ⟨a,rfl⟩:∃ a:Nat,n = -(a:Int):=⟨n.natAbs,by omega⟩
   rw [h1,Int.neg_tmod,Int.natAbs_neg]
   have:0≤(a:Int).tmod m:=Int.tmod_nonneg _ (Int.natCast_nonneg a)
   simp only [sg,if_true]
   omega
 · have h1:decide (n<0)=false:=by simpa using h
   have:0≤n.tmod m:=Int.tmod_nonneg _ (by omega)
   rw [h1]
   simp only [sg,Bool.false_eq_true,if_false]
   omega
theorem QuoRem_any {w:World} {b o c p d q g i:Nat} {n m:Int} (hz:Slot w b o 2) (hr:Slot w g i 2) (hx:IntAt w c p n) (hy:IntAt w d q m) (h0:m≠0) (hn:Okn n) :
  Calls Tryz.prog 371 #[.pointer (some ⟨b,o,none⟩),.pointer (some ⟨c,p,none⟩),.pointer (some ⟨d,q,none⟩),.pointer (some ⟨g,i,none⟩)] w fun e w'=>e=.returned (.tuple #[.pointer (some ⟨b,o,none⟩),.pointer (some ⟨g,i,none⟩)]) ∧
   ∃ w1,IntAt w1 g i (n.tmod m)∧Touch w w1 g i 2∧IntAt w' b o (n.tdiv m)∧Touch w1 w' b o 2:=by
 obtain ⟨A,la,ca,hx0,hx1,hxv,hxl⟩:=hx.open_
 obtain ⟨B,lb,cb,hy0,hy1,hyv,hyl⟩:=hy.open_
 have hm0:0<m.natAbs:=by omega
 have hla:la≤4294967296:=by have:=hxv.len.1; unfold Okn at hn; omega
 have HX0:=Lib.hid hx0
 have HX1:=Lib.hid hx1
 have HXV:=Lib.hid hxv
 have HY0:=Lib.hid hy0
 have HY1:=Lib.hid hy1
 have HYV:=Lib.hid hyv
 have HZ:=Lib.hid hz
 have HR:=Lib.hid hr
 have HM0:=Lib.hid hm0
 have HLA:=Lib.hid hla
 clear hx hy hx0 hx1 hxv hy0 hy1 hyv hz hr hm0 hla hn h0
 go_enter Tryz.func371,Tryz.ntmps371
 go_wp2
 refine wp_region_acts 14 (fun w'=>Below w.heap.size w w') (fun w w'=>Below w.heap.size w w') (fun i w v=>match i with
   | 0=>v=.pointer (some ⟨c,p,none⟩)
   | 1=>v=.pointer (some ⟨c,p,none⟩)
   | 2=>v=.pointer (some ⟨c,p+1,none⟩)
   | 3=>v=.slice A la ca
   | 4=>v=.pointer (some ⟨d,q,none⟩)
   | 5=>v=.pointer (some ⟨d,q,none⟩)
   | 6=>v=.pointer (some ⟨d,q+1,none⟩)
   | 7=>v=.slice B lb cb
   | 8=>∃ A1 m1 c1 A2 m2 c2,v=.tuple #[.slice A1 m1 c1,.slice A2 m2 c2]∧Words w (.slice A1 m1 c1) (dig (n.natAbs/m.natAbs))∧Words w (.slice A2 m2 c2) (dig (n.natAbs % m.natAbs))
   | 9=>∃ A1 m1 c1 A2 m2 c2,v=.tuple #[.slice A1 m1 c1,.slice A2 m2 c2]∧Words w (.slice A1 m1 c1) (dig (n.natAbs/m.natAbs))∧Words w (.slice A2 m2 c2) (dig (n.natAbs % m.natAbs))
   | 10=>∃ A1 m1 c1,v=.slice A1 m1 c1∧Words w (.slice A1 m1 c1) (dig (n.natAbs/m.natAbs))
   | 11=>∃ A1 m1 c1,v=.slice A1 m1 c1∧Words w (.slice A1 m1 c1) (dig (n.natAbs % m.natAbs))
   | 12=>∃ A1 m1 c1,v=.slice A1 m1 c1∧Words w (.slice A1 m1 c1) (dig (n.natAbs/m.natAbs))
   | _=>∃ A1 m1 c1,v=.slice A1 m1 c1∧Words w (.slice A1 m1 c1) (dig (n.natAbs % m.natAbs))) (by kernel_rfl) (by kernel_rfl) (by kernel_rfl) ((Below.refl _ _).drew) (fun _ _=>Below.refl _ _) ?_ ⟨?_,?_,?_,?_,?_,?_,?_,?_,?_,?_,?_,?_,?_,?_,trivial⟩ ?_
 · intro i w1 w2 v hC hC2 hE hV
   match i with
   | 0=>exact hV
   | 1=>exact hV
   | 2=>exact hV
   | 3=>exact hV
   | 4=>exact hV
   | 5=>exact hV
   | 6=>exact hV
   | 7=>exact hV
   | 8=>obtain ⟨A1,m1,c1,A2,m2,c2,e,h,k⟩:=hV; exact ⟨A1,m1,c1,A2,m2,c2,e,h.below hE,k.below hE⟩
   | 9=>obtain ⟨A1,m1,c1,A2,m2,c2,e,h,k⟩:=hV; exact ⟨A1,m1,c1,A2,m2,c2,e,h.below hE,k.below hE⟩
   | 10=>obtain ⟨A1,m1,c1,e,h⟩:=hV; exact ⟨A1,m1,c1,e,h.below hE⟩
   | 11=>obtain ⟨A1,m1,c1,e,h⟩:=hV; exact ⟨A1,m1,c1,e,h.below hE⟩
   | 12=>obtain ⟨A1,m1,c1,e,h⟩:=hV; exact ⟨A1,m1,c1,e,h.below hE⟩
   | _+13=>obtain ⟨A1,m1,c1,e,h⟩:=hV; exact ⟨A1,m1,c1,e,h.below hE⟩
 · intro a' w' hag hC hd K hK
   have e1:a'.tmps.getD 1 undef=.pointer (some ⟨c,p,none⟩):=hag 1 rfl
   go_step
   exact hK _ _ hC (Below.refl _ _) rfl
 · intro a' w' hag hC hd K hK
   have e15:a'.tmps.getD 15 undef=.pointer (some ⟨c,p,none⟩):=hd.1
   go_step
   exact hK _ _ hC (Below.refl _ _) rfl
 · intro a' w' hag hC hd K hK
   have e16:a'.tmps.getD 16 undef=.pointer (some ⟨c,p,none⟩):=hd.1
   go_step
   exact hK _ _ hC (Below.refl _ _) rfl
 · intro a' w' hag hC hd K hK
   have e17:a'.tmps.getD 17 undef=.pointer (some ⟨c,p+1,none⟩):=hd.1
   have hcell:w'.cell? ⟨c,p+1,none⟩=some (.slice A la ca):=by rw [hC.cell (p:=⟨c,p+1,none⟩) hxl]; exact HX1.out
   have HC:=Lib.hid hC
   clear hC
   go_step
   exact hK _ _ HC.out (Below.refl _ _) rfl
 · intro a' w' hag hC hd K hK
   have e2:a'.tmps.getD 2 undef=.pointer (some ⟨d,q,none⟩):=hag 2 rfl
   go_step
   exact hK _ _ hC (Below.refl _ _) rfl
 · intro a' w' hag hC hd K hK
   have e19:a'.tmps.getD 19 undef=.pointer (some ⟨d,q,none⟩):=hd.1
   go_step
   exact hK _ _ hC (Below.refl _ _) rfl
 · intro a' w' hag hC hd K hK
   have e20:a'.tmps.getD 20 undef=.pointer (some ⟨d,q,none⟩):=hd.1
   go_step
   exact hK _ _ hC (Below.refl _ _) rfl
 · intro a' w' hag hC hd K hK
   have e21:a'.tmps.getD 21 undef=.pointer (some ⟨d,q+1,none⟩):=hd.1
   have hcell:w'.cell? ⟨d,q+1,none⟩=some (.slice B lb cb):=by rw [hC.cell (p:=⟨d,q+1,none⟩) hyl]; exact HY1.out
   have HC:=Lib.hid hC
   clear hC
   go_step
   exact hK _ _ HC.out (Below.refl _ _) rfl
 · intro a' w' hag hC hd K hK
   have e18:a'.tmps.getD 18 undef=.slice A la ca:=hd.1
   have e22:a'.tmps.getD 22 undef=.slice B lb cb:=hd.2.1
   go_step
   refine (divide_any (HXV.out.below hC) (HYV.out.below hC) HM0.out HLA.out).mono ?_
   rintro e w2 ⟨v1,v2,rfl,h1,h2,h3⟩
   obtain ⟨A1,m1,c1,rfl⟩:=h1.form
   obtain ⟨A2,m2,c2,rfl⟩:=h2.form
   exact hK _ _ (hC.trans (h3.mono hC.size)) h3 ⟨_,_,_,_,_,_,rfl,h1,h2⟩
 · intro a' w' hag hC hd K hK
   obtain ⟨A1,m1,c1,A2,m2,c2,e23,hq',hr'⟩:=hd.1
   have e23:a'.tmps.getD 23 undef=.tuple #[.slice A1 m1 c1,.slice A2 m2 c2]:=e23
   go_step
   exact hK _ _ hC (Below.refl _ _) ⟨A1,m1,c1,A2,m2,c2,rfl,hq',hr'⟩
 · intro a' w' hag hC hd K hK
   obtain ⟨A1,m1,c1,A2,m2,c2,e14,hq',hr'⟩:=hd.1
   have e14:a'.tmps.getD 14 undef=.tuple #[.slice A1 m1 c1,.slice A2 m2 c2]:=e14
   go_step
   exact hK _ _ hC (Below.refl _ _) ⟨_,_,_,rfl,hq'⟩
 · intro a' w' hag hC hd K hK
   obtain ⟨A1,m1,c1,A2,m2,c2,e14,hq',hr'⟩:=hd.1
   have e14:a'.tmps.getD 14 undef=.tuple #[.slice A1 m1 c1,.slice A2 m2 c2]:=e14
   go_step
   exact hK _ _ hC (Below.refl _ _) ⟨_,_,_,rfl,hr'⟩
 · intro a' w' hag hC hd K hK
   obtain ⟨A1,m1,c1,e24,hq'⟩:=hd.1
   have e24:a'.tmps.getD 24 undef=.slice A1 m1 c1:=e24
   go_step
   exact hK _ _ hC (Below.refl _ _) ⟨A1,m1,c1,rfl,hq'⟩
 · intro a' w' hag hC hd K hK
   obtain ⟨A2,m2,c2,e25,hr'⟩:=hd.1
   have e25:a'.tmps.getD 25 undef=.slice A2 m2 c2:=e25
   go_step
   exact hK _ _ hC (Below.refl _ _) ⟨A2,m2,c2,rfl,hr'⟩
 · intro u w' hC hall
   obtain ⟨u0,u1,u2,u3,u4,u5,u6,u7,u8,u9,u10,u11,u12,u13,_⟩:=hall
   have u0:u 0=.pointer (some ⟨c,p,none⟩):=u0
   have u1:u 1=.pointer (some ⟨c,p,none⟩):=u1
   have u2:u 2=.pointer (some ⟨c,p+1,none⟩):=u2
   have u3:u 3=.slice A la ca:=u3
   have u4:u 4=.pointer (some ⟨d,q,none⟩):=u4
   have u5:u 5=.pointer (some ⟨d,q,none⟩):=u5
   have u6:u 6=.pointer (some ⟨d,q+1,none⟩):=u6
   have u7:u 7=.slice B lb cb:=u7
   obtain ⟨A1,m1,c1,eu12,hq'⟩:=u12
   have u12:u 12=.slice A1 m1 c1:=eu12
   obtain ⟨A2,m2,c2,eu13,hr'⟩:=u13
   have u13:u 13=.slice A2 m2 c2:=eu13
   simp only [fillR,List.take_succ_cons,List.take_zero,Act.put,List.setIfInBounds_toArray,List.set_cons_succ,List.set_cons_zero,Nat.zero_add,Nat.reduceAdd,u0,u1,u2,u3,u4,u5,u6,u7,u12,u13]
   clear u0 u1 u2 u3 u4 u5 u6 u7 u12 u13
   have hcx:w'.cell? ⟨c,p,none⟩=some (.bool (decide (n<0))):=by rw [hC.cell (p:=⟨c,p,none⟩) hxl]; exact HX0.out
   have hcy:w'.cell? ⟨d,q,none⟩=some (.bool (decide (m<0))):=by rw [hC.cell (p:=⟨d,q,none⟩) hyl]; exact HY0.out
   have HC:=Lib.hid hC
   have HQ:=Lib.hid hq'
   have HRR:=Lib.hid hr'
   clear hC hq' hr'
   go_wp2
   go_quiet (fail)
   clear hcx hcy
   go_wp2_with (at_builtin; refine wpList_append_copy rfl (.const (.slice none 0 0)) (.tmp 41) rfl _ _ _ _ rfl rfl HRR.out (fun v' w2 h1 h2=>?_))
   obtain ⟨A3,m3,c3,rfl⟩:=h1.form
   have hb2:Below w.heap.size w w2:=HC.out.trans ((Below.drewN_ (Below.refl _ _) nq).trans (h2.mono HC.out.size))
   have hr2:Slot w2 g i 2:=HR.out.on hb2
   have hz2:Slot w2 b o 2:=HZ.out.on hb2
   have hq2:Words w2 (.slice A1 m1 c1) (dig (n.natAbs/m.natAbs)):=HQ.out.below ((Below.drewN_ (Below.refl w'.heap.size w') nq).trans h2)
   refine (is_any (decide (n<0)) hr2 h1).mono ?_
   rintro e w3 ⟨rfl,h3,h4⟩
   rw [val_dig,sg_tmod] at h3
   have hq3:=hq2.touch hr2 h4
   have hz3:=hz2.touch h4
   have HQ3:=Lib.hid hq3
   have HZ3:=Lib.hid hz3
   have H3:=Lib.hid h3
   have H4:=Lib.hid h4
   have HB2:=Lib.hid hb2
   clear h1 h2 h3 h4 hb2 hr2 hz2 hq2 hq3 hz3
   go_wp2_with fail
   refine (is_any (decide (n<0) != decide (m<0)) HZ3.out HQ3.out).mono ?_
   rintro e w4 ⟨rfl,h5,h6⟩
   rw [val_dig,sg_tdiv] at h5
   have H5:=Lib.hid h5
   have H6:=Lib.hid h6
   clear h5 h6
   go_wp2
   go_ret2
   exact ⟨rfl,_,H3.out,(Touch.of_below HB2.out g i 2).trans H4.out,H5.out,H6.out⟩
theorem Quo_any {w:World} {b o c p d q:Nat} {n m:Int} (hz:Slot w b o 2) (hx:IntAt w c p n) (hy:IntAt w d q m) (h0:m≠0) (hn:Okn n) :
  Calls Tryz.prog 333 #[.pointer (some ⟨b,o,none⟩),.pointer (some ⟨c,p,none⟩),.pointer (some ⟨d,q,none⟩)] w fun e w'=>e=.returned (.pointer (some ⟨b,o,none⟩))∧IntAt w' b o (n.tdiv m)∧Touch w w' b o 2:=by
 have HX:=Lib.hid hx
 have HY:=Lib.hid hy
 have HZ:=Lib.hid hz
 have HN:=Lib.hid hn
 have H0:=Lib.hid h0
 clear hx hy hz hn h0
 go_enter Tryz.func333,Tryz.ntmps333
 go_wp2_with fail
 have ha:Below w.heap.size w (w.alloc (.cells #[.bool false,.slice none 0 0] 186)):=(Below.refl _ _).alloc (Nat.le_refl _) _
 refine (QuoRem_any (HZ.out.on ha) (IntAt.new w).slot (HX.out.on ha) (HY.out.on ha) H0.out HN.out).mono ?_
 rintro e w2 ⟨rfl,w1,_,h1,h2,h3⟩
 have H2:=Lib.hid h2
 have HT:Hid (Touch w w2 b o 2):=(Touch.of_below (ha.trans (h1.below (Nat.le_refl _) ha.size)) b o 2).trans h3
 clear h1 h2 h3 ha
 go_wp2
 go_ret
 exact ⟨rfl,H2.out,HT.out⟩
theorem Okn.small {n:Int} (h:n.natAbs<4294967296^100):Okn n:=Nat.le_trans (dig_len_le _ 100 h) (by decide)
def wholeV (n:Int):Value:=.agg #[.bool (decide (n<0)),.string (mag n.natAbs)]
def fracV (q:Rat):Value:=.agg #[.bool (decide (q.num<0)),.string (mag q.num.natAbs),.bool false,.string (mag q.den)]
def Byt (w:World) (v:Value) (xs:List Nat):Prop :=
 B8 xs∧∃ b cap cs t fr,v=.slice (some ⟨b,0,none⟩) xs.length cap∧w.heap[b]?=some (.cells cs t fr)∧∀ i,i<xs.length→cs[i]?=some (.int .u8 (xs.getD i 0:Nat))
theorem Byt.on {w w':World} {v:Value} {xs:List Nat} (h:Byt w v xs) (k:Below w.heap.size w w'):Byt w' v xs:=by
 obtain ⟨h0,b,cap,cs,t,fr,h1,h2,h3⟩:=h
 exact ⟨h0,b,cap,cs,t,fr,h1,by rw [k.block b (heap_some_lt h2)]; exact h2,h3⟩
theorem Byt.form {w:World} {v:Value} {xs:List Nat} (h:Byt w v xs):∃ b n cap,v=.slice (some ⟨b,0,none⟩) n cap:=by
 obtain ⟨_,b,cap,_,_,_,h1,_⟩:=h
 exact ⟨b,_,cap,h1⟩
theorem Byt.open_ {w:World} {b n cap:Nat} {xs:List Nat} (h:Byt w (.slice (some ⟨b,0,none⟩) n cap) xs):n=xs.length∧B8 xs∧b<w.heap.size∧∀ i,i<xs.length→w.cell? ⟨b,i,none⟩=some (.int .u8 (xs.getD i 0:Nat)):=by
 obtain ⟨h0,b',cap',cs,t,fr,h1,h2,h3⟩:=h
 injection h1 with h1 h4 h5
 cases Option.some.inj h1
 exact ⟨h4,h0,heap_some_lt h2,fun i hi=>by rw [cell_of_row _ _ _ _ _ _ h2]; exact h3 i hi⟩
theorem strOfNums_nat (xs:List Nat):strOfNums (xs.map Int.ofNat)=strN xs:=by
 have e:(xs.map Int.ofNat).map (fun n:Int=>UInt8.ofNat n.toNat)=xs.map UInt8.ofNat:=by
  rw [List.map_map]
  exact List.map_congr_left fun x _=>rfl
 unfold strOfNums strN
 rw [e]
theorem string_of_byt {w:World} {v:Value} {xs:List Nat} (h:Byt w v xs):(convert 245 9 v).run Tryz.prog w=.ok (.string (strN xs)) w:=by
 obtain ⟨b,n,cap,rfl⟩:=h.form
 obtain ⟨h1,h2,_,h4⟩:=h.open_
 have hc:∀ i,i<n→w.cell? ⟨b,0+i,none⟩=some (.int .u8 ((xs.map Int.ofNat).getD i 0)):=by
  intro i hi
  have hi2:i<xs.length:=by omega
  rw [Nat.zero_add,h4 i hi2]
  simp only [List.getD,List.getElem?_map,List.getElem?_eq_getElem hi2,Option.map_some,Option.getD_some]
  rfl
 rw [← strOfNums_nat]
 exact run_convert_bytes_arg (P:=Tryz.prog) w _ _ Tryz.underlying245 Tryz.underlying5 b 0 n cap (xs.map Int.ofNat) (by rw [List.length_map,h1]) hc _ Tryz.underlying9
def BBuf (w:World) (g:Nat) (xs:List Nat):Prop :=
 B8 xs∧∃ cs,w.heap[g]?=some (.cells cs 5 (0,0))∧xs.length≤cs.size∧∀ i,i<xs.length→cs[i]?=some (.int .u8 (xs.getD i 0:Nat))
theorem BBuf.lt {w:World} {g:Nat} {xs:List Nat} (h:BBuf w g xs):g<w.heap.size:=by obtain ⟨_,_,h,_⟩:=h; exact heap_some_lt h
theorem BBuf.cell {w:World} {g:Nat} {xs:List Nat} (h:BBuf w g xs) (i:Nat) (hi:i<xs.length):w.cell? ⟨g,i,none⟩=some (.int .u8 (xs.getD i 0:Nat)):=by
 obtain ⟨_,cs,h1,_,h3⟩:=h
 rw [cell_of_row w g i cs _ _ h1]
 exact h3 i hi
theorem BBuf.frozen {w:World} {g:Nat} {xs:List Nat} (h:BBuf w g xs) (i:Nat):w.frozen? ⟨g,i,none⟩=false:=by
 obtain ⟨_,cs,h1,_⟩:=h
 simp [World.frozen?,h1]
theorem B8.set {xs:List Nat} (h:B8 xs) (i x:Nat) (hx:x<256):B8 (xs.set i x):=by
 intro y hy
 rcases List.mem_or_eq_of_mem_set hy with h1 | rfl
 · exact h y h1
 · exact hx
theorem B8.zeros (k:Nat):B8 (List.replicate k 0):=by
 intro x hx
 rw [(List.mem_replicate.1 hx).2]; decide
theorem BBuf.set {w:World} {g:Nat} {xs:List Nat} (h:BBuf w g xs) (i x:Nat) (n:Int) (hx:x<256) (hn:n=x):BBuf (w.setCell ⟨g,i,none⟩ (.int .u8 n)) g (xs.set i x):=by
 obtain ⟨hw,cs,h1,h2,h3⟩:=h
 subst hn
 refine ⟨hw.set i x hx,cs.setIfInBounds i (.int .u8 (x:Int)),by simp [World.setCell,Array.getElem?_modify,h1],by simpa using h2,fun j hj=>?_⟩
 rw [List.length_set] at hj
 rw [Array.getElem?_setIfInBounds,getD_set]
 by_cases hij:i=j
 · subst hij
   rw [if_pos rfl,if_pos (by omega),if_pos ⟨rfl,hj⟩]
 · simp [hij]
   have:=h3 j hj
   simpa using this
theorem BBuf.byt {w:World} {g cap n:Nat} {xs:List Nat} (h:BBuf w g xs) (hn:xs.length=n):Byt w (.slice (some ⟨g,0,none⟩) n cap) xs:=by
 obtain ⟨hw,cs,h1,h2,h3⟩:=h
 exact ⟨hw,g,cap,cs,_,_,by rw [hn],h1,h3⟩
theorem u8_info:(Tryz.prog.info? 5).map (fun i=>(i.zero,i.size,i.bytes))=some (some (.int .u8 0),1,1):=by kernel_rfl
theorem madeCells_byte (n i:Nat) (h:i<n):(madeCells (Value.int .u8 0).cells n)[i]?=some (.int .u8 0):=by
 simp [madeCells,h,Value.cells,Nat.mod_one]
theorem run_make_bytes (w:World) (kl kc:IntKind) (l c:Int) (n m:Nat) (hl:l=n) (hc:c=m) (hnm:n≤m) (hm:m≤34359738368) :
  ∃ w',(Instr.makeSlice 245 (.int kl l) (.int kc c)).run Tryz.prog w=.ok (.slice (some ⟨w.heap.size,0,none⟩) n m) w'∧BBuf w' w.heap.size (List.replicate m 0)∧Below w.heap.size w w'∧w'.heap.size=w.heap.size+1:=by
 obtain ⟨i0,hi,hz0,hz1,hz2⟩:=info_parts u8_info
 subst hl hc
 have hr:=run_make (P:=Tryz.prog) w 245 5 i0 (.int .u8 0) Tryz.underlying245 hi hz0 kl kc n m (by omega) (by omega) (by rw [hz2]; omega) (by omega)
 rw [hz1] at hr
 simp only [Int.toNat_natCast,Nat.mul_one] at hr
 refine ⟨_,hr,⟨B8.zeros m,_,heap_alloc_new w _,by simp [size_madeCells],fun i hi=>?_⟩,(Below.refl _ _).alloc (Nat.le_refl _) _,by simp⟩
 rw [List.length_replicate] at hi
 rw [madeCells_byte m i hi,getD_in (by simpa using hi),List.getElem_replicate]
 rfl
theorem wpList_make_bytes {ops:Array Oper} {rest:List Oper} {o:Oper} {a:Act} {w:World} {Q:Exit→Act→World→Prop} (hg:o.guard=none) (l c:Operand) (hop:o.op=Op.makeSlice 245 l c)
  (kl kc:IntKind) (L C:Int) (n m:Nat) (hl:a.eval l=.int kl L) (hc:a.eval c=.int kc C) (hL:L=n) (hC:C=m) (hnm:n≤m) (hm:m≤34359738368)
  (hK:∀ w',BBuf w' w.heap.size (List.replicate m 0)→Below w.heap.size w w'→w'.heap.size=w.heap.size+1→wpList Tryz.prog ops Q rest (a.put o.dst (.slice (some ⟨w.heap.size,0,none⟩) n m)) w') :
  wpList Tryz.prog ops Q (o::rest) a w:=by
 refine wpList_plain hg fun K hK'=>?_
 obtain ⟨w',hrun,r1,r2,r3⟩:=run_make_bytes w kl kc L C n m hL hC hnm hm
 unfold Oper.wp
 simp [execOp,hop,hl,hc,hrun,Result.andThen]
 exact hK' _ _ (hK w' r1 r2 r3)
def BoxAt (w:World) (g:Nat) (cs:Array Value) (t:TypeId):Prop:=w.heap[g]?=some (.cells cs t (0,0))
theorem BoxAt.new (w:World) (cs:Array Value) (t:TypeId):BoxAt (w.alloc (.cells cs t)) w.heap.size cs t:=heap_alloc_new w _
theorem BoxAt.lt {w:World} {g:Nat} {cs:Array Value} {t:TypeId} (h:BoxAt w g cs t):g<w.heap.size:=heap_some_lt h
theorem BoxAt.on {w w':World} {g:Nat} {cs:Array Value} {t:TypeId} (h:BoxAt w g cs t) (k:Below w.heap.size w w'):BoxAt w' g cs t:=by
 unfold BoxAt
 rw [k.block g h.lt]
 exact h
theorem BoxAt.cell {w:World} {g:Nat} {cs:Array Value} {t:TypeId} (h:BoxAt w g cs t) (i:Nat) (v:Value) (hv:cs[i]?=some v):w.cell? ⟨g,i,none⟩=some v:=by
 rw [cell_of_row w g i cs _ _ h]
 exact hv
theorem BoxAt.set {w:World} {g:Nat} {cs:Array Value} {t:TypeId} (h:BoxAt w g cs t) (i:Nat) (u:Value):BoxAt (w.setCell ⟨g,i,none⟩ u) g (cs.setIfInBounds i u) t:=by
 unfold BoxAt at h
 unfold BoxAt
 simp [World.setCell,Array.getElem?_modify,h]
theorem BoxAt.frozen {w:World} {g:Nat} {cs:Array Value} {t:TypeId} (h:BoxAt w g cs t) (i:Nat):w.frozen? ⟨g,i,none⟩=false:=by
 unfold BoxAt at h
 simp [World.frozen?,h]
theorem wraps_w32 (n:Int) (h0:0≤n) (h1:n<2^32):IntKind.u32.wrap n=n:=by
 simp [IntKind.wrap,IntKind.bits,IntKind.signed]; omega
theorem or_w32 (a b:Nat) (ha:a<4294967296) (hb:b<4294967296):bits BinOp.or IntKind.u32 (a:Int) (b:Int)=((a ||| b:Nat):Int):=(bits_nat .u32 32 (by decide) wraps_w32 a b ha hb).2
theorem top_bits (m l t j:Nat) (hl:(dig m).length=l) (h0:0<l) (ht:(dig m).getD (l-1) 0=t) (hj:j≤31) (h1:t*2^j<4294967296) (h2:2147483648≤t*2^j) :
  m<2^(32*l-j)∧2^(32*l-j-1)≤m:=by
 have hm:=dig_lt m
 rw [hl] at hm
 obtain ⟨k,rfl⟩:∃ k,l=k+1:=⟨l-1,by omega⟩
 rw [Nat.add_sub_cancel,dig_getD] at ht
 rw [Nat.pow_succ] at hm
 have h3:m/4294967296^k<4294967296:=Nat.div_lt_of_lt_mul hm
 rw [Nat.mod_eq_of_lt h3] at ht
 have hP:0<4294967296^k:=Nat.pow_pos (by decide)
 have e1:2^(32*(k+1)-j)=4294967296^k*2^(32-j):=by
  rw [p32,← Nat.pow_add]
  congr 1
  omega
 have e2:2^(32*(k+1)-j-1)=4294967296^k*2^(31-j):=by
  rw [p32,← Nat.pow_add]
  congr 1
  omega
 have e3:2^(32-j)*2^j=4294967296:=by rw [← Nat.pow_add,show 32-j+j=32 by omega]
 have e4:2^(31-j)*2^j=2147483648:=by rw [← Nat.pow_add,show 31-j+j=31 by omega]
 have hJ:0<2^j:=Nat.pow_pos (by decide)
 have h5:t<2^(32-j):=by rw [← e3] at h1; exact Nat.lt_of_mul_lt_mul_right h1
 have h6:2^(31-j)≤t:=by rw [← e4] at h2; exact Nat.le_of_mul_le_mul_right h2 hJ
 rw [e1,e2]
 subst ht
 exact ⟨(Nat.div_lt_iff_lt_mul hP).1 h5 |> fun h=>by rw [Nat.mul_comm]; exact h,by rw [Nat.mul_comm]; exact (Nat.le_div_iff_mul_le hP).1 h6⟩
theorem dig_top (m:Nat) (h:dig m≠[]):(dig m).getD ((dig m).length-1) 0≠0:=by
 have h0:0<m:=by
  rcases Nat.eq_zero_or_pos m with k | k
  · subst k; exact absurd dig_zero h
  · exact k
 have h1:=dig_len_ge m h0
 have h2:=dig_lt m
 have h3:0<(dig m).length:=List.length_pos_iff.2 h
 rw [dig_getD]
 generalize (dig m).length=k at *
 obtain ⟨j,rfl⟩:∃ j,k=j+1:=⟨k-1,by omega⟩
 rw [Nat.add_sub_cancel] at *
 rw [Nat.pow_succ] at h2
 have h5:0<4294967296^j:=Nat.pow_pos (by decide)
 have h6:m/4294967296^j<4294967296:=Nat.div_lt_of_lt_mul h2
 have h7:0<m/4294967296^j:=Nat.div_pos h1 h5
 omega
def Bits (m L:Nat):Prop:=m<2^L∧(0<L→2^(L-1)≤m)
theorem BitLen_any {w:World} {b o:Nat} {n:Int} (hx:IntAt w b o n) :
  Calls Tryz.prog 353 #[.pointer (some ⟨b,o,none⟩)] w fun e w'=>∃ L:Nat,e=.returned (.int .i64 (L:Int))∧Bits n.natAbs L∧L≤549755813888∧Below w.heap.size w w':=by
 obtain ⟨A,l,c,h0,h1,h2,_⟩:=hx.open_
 have hl:=h2.len.1
 have hlb:=h2.2.1
 rw [← hl] at hlb
 have hf:=hx.slot.frozen o
 have HX:=Lib.hid hx
 clear hf h0
 rcases Nat.eq_zero_or_pos l with hz | hz
 · subst hz
   have hn:n.natAbs=0:=(dig_nil_iff _).1 (List.eq_nil_of_length_eq_zero hl.symm)
   have HN:=Lib.hid hn
   clear hn hl h2 hx
   go_enter Tryz.func353,Tryz.ntmps353
   go_wp2
   go_ret
   exact ⟨0,rfl,by rw [HN.out]; exact ⟨by decide,fun h=>absurd h (by decide)⟩,by decide,Below.refl _ _⟩
 · have ht0:(dig n.natAbs).getD (l-1) 0≠0:=by
    rw [hl]
    exact dig_top _ fun e=>by rw [e] at hl; simp [hl] at hz
   obtain ⟨g,p,rfl,hc⟩:=h2.open_ hz
   have hc:=hc (l-1) (by omega)
   obtain ⟨t,ht⟩:∃ t,t=(dig n.natAbs).getD (l-1) 0:=⟨_,rfl⟩
   have ht32:t<4294967296:=by rw [ht]; exact (Wf_dig _).getD _
   have htp:0<t:=by omega
   replace hc:w.cell? ⟨g,p+(l-1),none⟩=some (.int .u32 (t:Int)):=by rw [ht]; exact hc
   have hfin:=fun j hj h1 h2=>top_bits n.natAbs l t j hl.symm hz ht.symm hj h1 h2
   have HF:=Lib.hid hfin
   have hl0:(0:Int)≤(l:Int)-1:=by omega
   clear hl h2 hx ht0 ht hfin
   go_enter Tryz.func353,Tryz.ntmps353
   go_wp2
   go_region
   go_wp2
   go_loopw [3,4] (fun i c wr=>∃ k T:Nat,k≤31∧i=.int .i64 (((32*l-k:Nat):Int))∧c=.int .u32 (T:Int)∧T<4294967296∧0<T∧Hid (T=t*2^k)∧Below w.heap.size w wr) (fun _ c _=>(4294967296-intOf c).toNat)
   case atStart=>exact ⟨0,t,by omega,by rw [Nat.sub_zero]; go_num,rfl,ht32,htp,by simp [Hid],by first | exact Below.refl _ _ | exact Below.drewN_ (Below.refl _ _) _⟩
   case round =>
    obtain ⟨k,T,hk,rfl,rfl,hT,hT0,HTT,hbb⟩:=hrel
    by_cases hdone:T<2147483648
    · have hq:(((T:Int)/2147483648)==0)=true:=by rw [beq_iff_eq]; omega
      go_wp2
      go_roundw
      case rel =>
       refine ⟨k+1,T*2,?_,by go_num,by go_num,by omega,by omega,?_,hbb⟩
       · rcases Nat.lt_or_ge k 31 with h | h
         · omega
         · exfalso
           have h1:=HTT.out
           have h2:t*2^31≤t*2^k:=Nat.mul_le_mul_left _ (Nat.pow_le_pow_right (by omega) h)
           omega
       · rw [Hid,HTT.out,Nat.pow_succ,Nat.mul_assoc]
      case measure=>simp [intOf]; omega
    · have hq:(((T:Int)/2147483648)==0)=false:=by rw [beq_eq_false_iff_ne]; omega
      have HG:=Lib.hid (HF.out k hk (by rw [← HTT.out]; exact hT) (by rw [← HTT.out]; omega))
      clear hc
      go_wp2
      go_ret
      exact ⟨32*l-k,rfl,⟨HG.out.1,fun _=>HG.out.2⟩,by omega,hbb⟩
theorem byte_into (ls ys:List Nat) (i x q s:Nat) (hw:Wf ls) (hl:i/4<ls.length) (hv:val ls=bval (ys.take i)) (hy:B8 ys) (hi:i<ys.length) (hx:ys.getD i 0=x) (hq:q=i/4) (hs:s=i % 4*8) :
  x<256∧ls.getD q 0<2^s∧(ls.getD q 0 ||| x*2^s)=ls.getD q 0+x*2^s∧ls.getD q 0+x*2^s<4294967296∧val (ls.set q (ls.getD q 0+x*2^s))=bval (ys.take (i+1)):=by
 have h1:x<256:=by rw [← hx]; exact hy.getD i
 have h2:=bval_lt (ys.take i) (hy.take i)
 rw [List.length_take,Nat.min_eq_left (by omega),← hv,p256] at h2
 have hs4:s≤24:=by omega
 have hqs:32*q+s=8*i:=by omega
 have h3:ls.getD q 0<2^s:=by
  rw [val_getD ls hw q]
  refine Nat.lt_of_le_of_lt (Nat.mod_le _ _) ?_
  rw [p32]
  refine Nat.div_lt_of_lt_mul ?_
  rw [← Nat.pow_add,hqs]
  exact h2
 have h4:=or_add (ls.getD q 0) x s h3
 have h5:ls.getD q 0+x*2^s<4294967296:=by
  have h6:x*2^s≤255*2^s:=Nat.mul_le_mul_right _ (by omega)
  have h7:2^s≤2^24:=Nat.pow_le_pow_right (by decide) hs4
  omega
 refine ⟨h1,h3,h4,h5,?_⟩
 have h8:=val_set ls q (ls.getD q 0+x*2^s) (by omega)
 rw [Nat.mul_add] at h8
 have h9:val (ls.set q (ls.getD q 0+x*2^s))=val ls+4294967296^q*(x*2^s):=by omega
 rw [h9,hv,bval_take_step,hx,p32,p256,← hqs,Nat.pow_add]
 congr 1
 rw [Nat.mul_comm x,Nat.mul_assoc]
set_option maxRecDepth 100000 in
theorem SetBytes_any {w:World} {b o h m cap:Nat} {xs:List Nat} (hz:Slot w b o 2) (hv:Byt w (.slice (some ⟨h,0,none⟩) m cap) xs) (hm:m≤4294967296) :
  Calls Tryz.prog 347 #[.pointer (some ⟨b,o,none⟩),.slice (some ⟨h,0,none⟩) m cap] w fun e w'=>e=.returned (.pointer (some ⟨b,o,none⟩))∧IntAt w' b o (bval xs.reverse)∧Touch w w' b o 2:=by
 obtain ⟨hlen,h8,hlt,_⟩:=hv.open_
 obtain ⟨ys,hys⟩:∃ ys,ys=xs.reverse:=⟨_,rfl⟩
 rw [← hys]
 have HY8:Hid (B8 ys):=by rw [hys]; exact h8.reverse
 have HYL:Hid (ys.length=m):=by rw [hys,Hid,List.length_reverse,hlen]
 have HYX:Hid (∀ i,i<m→xs.getD (m-1-i) 0=ys.getD i 0):=by
  intro i hi
  rw [getD_in (by omega),getD_in (by rw [HYL.out]; exact hi)]
  subst hys
  rw [List.getElem_reverse]
  congr 1
  omega
 have HZ:=Lib.hid hz
 have HV:=Lib.hid hv
 clear hz hv hys hlen h8 hlt
 go_enter Tryz.func347,Tryz.ntmps347
 go_wp2_with (at_make; refine wpList_make_words rfl _ _ rfl _ _ _ _ ((m+3)/4) ((m+3)/4) rfl rfl (by omega) (by omega) (by omega) (by omega) ?_)
 intro w1 hbuf hb1 hz1
 have HZ1:=Lib.hid hz1
 clear hz1
 go_wp2
 go_loopw [15] (fun i wr=>∃ (k:Nat) (ls:List Nat),k≤m∧i=.int .i64 (k:Int)∧Hid (ls.length=(m+3)/4)∧Hid (val ls=bval (ys.take k))∧Buf wr w.heap.size ls∧Below w.heap.size w wr) (fun i _=>m-(intOf i).toNat)
 case atStart=>exact ⟨0,List.replicate ((m+3)/4) 0,by omega,rfl,by simp [Hid],by rw [Hid,val_zeros]; rfl,hbuf,hb1⟩
 case round =>
  obtain ⟨k,ls,hk,rfl,HL,HVL,hbuf',hb'⟩:=hrel
  have hsz:=hb'.size
  have hblt:=hbuf'.lt
  clear hbuf hb1 HZ1
  by_cases hk0:k<m
  · obtain ⟨-,-,hhl,hcell⟩:=(HV.out.on hb').open_
    obtain ⟨q,hq⟩:∃ q,q=k/4:=⟨_,rfl⟩
    obtain ⟨r,hr⟩:∃ r,r=k % 4:=⟨_,rfl⟩
    obtain ⟨s,hs⟩:∃ s,s=k % 4*8:=⟨_,rfl⟩
    obtain ⟨x,hx⟩:∃ x,x=ys.getD k 0:=⟨_,rfl⟩
    obtain ⟨a,ha⟩:∃ a,a=ls.getD q 0:=⟨_,rfl⟩
    obtain ⟨k1,k2,k3,k4,k5⟩:=byte_into ls ys k x q s hbuf'.1 (by rw [HL.out]; omega) HVL.out HY8.out (by rw [HYL.out]; exact hk0) hx.symm hq hs
    have hqi:(k:Int)/4=(q:Int):=by omega
    have hri:(k:Int) % 4=(r:Int):=by omega
    have hsi:(r:Int)*8=(s:Int):=by omega
    have hs24:s≤24:=by omega
    have hc1:=hcell (m-1-k) (by have:=HYL.out; have h:=HV.out.open_.1; omega)
    rw [HYX.out k hk0,← hx] at hc1
    have hc2:=hbuf'.cell q (by rw [HL.out]; omega)
    rw [← ha] at hc2 k2 k3 k4 k5
    have hf:=hbuf'.frozen q
    have HB:=Lib.hid (hbuf'.set q (a+x*2^s) _ k4 rfl)
    have hne:h≠w.heap.size:=by have:=HV.out.open_.2.2.1; omega
    obtain ⟨t,ht⟩:∃ t,t=x*2^s:=⟨_,rfl⟩
    have hti:(x:Int)*2^s=(t:Int):=by rw [ht,Int.natCast_mul,Int.natCast_pow]; rfl
    rw [← ht] at k3 k4 k5 HB
    have hor:bits BinOp.or IntKind.u32 (a:Int) (t:Int)=((a+t:Nat):Int):=by rw [or_w32 a t (by omega) (by omega),k3]
    rw [Int.natCast_add] at hor HB
    have hmk:(0:Int)≤(m:Int)-1-(k:Int):=by omega
    have hmk2:((m:Int)-1-(k:Int))=((m-1-k:Nat):Int):=by omega
    have HK5:=Lib.hid k5
    have hql:q<(m+3)/4:=by omega
    have hpk:m-1-k<m:=by omega
    clear hcell ha hx ht hq hr hs k2 k3 k5 hbuf'
    go_wp2
    go_region
    go_wp2
    go_roundw
    case rel =>
     refine ⟨k+1,ls.set q (a+t),by omega,by go_num,by rw [Hid,List.length_set]; exact HL.out,HK5.out,HB.out,Below.drew (hb'.setCell (Nat.le_refl _) _)⟩
    case measure=>simp [intOf]; omega
  · obtain rfl:k=m:=by omega
    have hw:=hbuf'.words (cap:=(k+3)/4) (by rw [HL.out]; omega) (by rw [HL.out]; exact Nat.le_refl _)
    rw [HL.out] at hw
    have HW:=Lib.hid hw
    have hv:=HVL.out
    rw [List.take_of_length_le (by rw [HYL.out]; exact Nat.le_refl _)] at hv
    have HVV:=Lib.hid hv
    have hz1:=HZ.out.on hb'
    clear hbuf' hw hv
    go_wp2_with fail
    refine (is_any false hz1 HW.out).mono ?_
    rintro e w3 ⟨rfl,h1,h2⟩
    rw [HVV.out] at h1
    have H3:=Lib.hid h1
    have H4:=Lib.hid h2
    clear h1 h2 hz1
    go_wp2
    go_ret
    refine ⟨rfl,?_,(Touch.of_below hb' b o 2).trans H4.out⟩
    have:=H3.out
    simpa [sg] using this
theorem led_back (n m k:Nat) (h:(led n).length=m) (hk:k<m) :
  (List.replicate (m-k) 0++(led n).reverse.drop (m-k)).set (m-1-k) (n/256^k % 256)=List.replicate (m-(k+1)) 0++(led n).reverse.drop (m-(k+1)):=by
 obtain ⟨j,hj⟩:∃ j,m-k=j+1:=⟨m-k-1,by omega⟩
 rw [show m-1-k=j by omega,show m-(k+1)=j by omega,hj]
 have e:(led n).reverse.drop j=(n/256^k % 256)::(led n).reverse.drop (j+1):=by
  rw [List.drop_eq_getElem_cons (by rw [List.length_reverse]; omega)]
  congr 1
  rw [List.getElem_reverse,← led_getD,getD_in (by omega)]
  congr 1
  omega
 rw [e,List.replicate_succ']
 rw [List.append_assoc,List.set_append_right _ _ (by simp)]
 simp
theorem Bits.le {n L k:Nat} (h:Bits n L) (hk:n<2^k):L≤k:=by
 rcases Nat.eq_zero_or_pos L with h0 | h0
 · omega
 · have h1:=h.2 h0
   have:=(Nat.pow_lt_pow_iff_right (by decide:1<2)).1 (Nat.lt_of_le_of_lt h1 hk)
   omega
set_option maxRecDepth 100000 in
theorem Bytes_any {w:World} {b o:Nat} {n:Int} (hx:IntAt w b o n) (hn:Okn n) :
  Calls Tryz.prog 285 #[.pointer (some ⟨b,o,none⟩)] w fun e w'=>∃ v,e=.returned v∧Byt w' v (led n.natAbs).reverse∧Below w.heap.size w w':=by
 have HX:=Lib.hid hx
 have HO:=Lib.hid hn
 clear hx hn
 go_enter Tryz.func285,Tryz.ntmps285
 go_wp2_with fail
 refine (BitLen_any HX.out).mono ?_
 rintro e w1 ⟨L,rfl,hL,hLb,hb1⟩
 obtain ⟨N,hN⟩:∃ N,N=n.natAbs:=⟨_,rfl⟩
 have ho:=HO.out
 unfold Okn at ho
 rw [← hN] at hL ho
 obtain ⟨m,hm⟩:∃ m,m=(L+7)/8:=⟨_,rfl⟩
 have HM:Hid ((led N).length=m):=by rw [hm]; exact led_len_bits N L hL.1 hL.2
 have hmi:((L:Int)+7)/8=(m:Int):=by omega
 have hLL:=hL.le (by have:=dig_lt N; rw [p32] at this; exact this)
 have hmb:m≤17179869185:=by omega
 have HN:=Lib.hid hN
 have HB1:=Lib.hid hb1
 have HS1:Hid (w.heap.size≤w1.heap.size):=hb1.size
 clear hL hm hb1 hN hLL ho
 go_wp2_with (at_make; refine wpList_make_bytes rfl _ _ rfl _ _ _ _ m m rfl rfl (by omega) (by omega) (Nat.le_refl _) (by omega) ?_)
 intro w2 hbuf hb2 hz2
 have HB2:=Lib.hid hz2
 clear hz2
 go_wp2
 go_loopw [14] (fun i wr=>∃ (k:Nat),k≤m∧i=.int .i64 (k:Int)∧BBuf wr w1.heap.size (List.replicate (m-k) 0++(led N).reverse.drop (m-k))∧Below w1.heap.size w1 wr) (fun i _=>m-(intOf i).toNat)
 case atStart=>exact ⟨0,by omega,rfl,by rw [Nat.sub_zero,List.drop_of_length_le (by rw [List.length_reverse,HM.out]; exact Nat.le_refl _),List.append_nil]; exact hbuf,hb2⟩
 case round =>
  obtain ⟨k,hk,rfl,hbuf',hb'⟩:=hrel
  have hsz:=hb'.size
  have hblt:=hbuf'.lt
  clear hbuf hb2 HB2
  by_cases hk0:k<m
  · have hx:=HX.out.on (HB1.out.trans (hb'.mono HS1.out))
    obtain ⟨A,l,c,h0,h1,h2,hlt⟩:=hx.open_
    rw [← HN.out] at h2
    have hl:=h2.len.1
    obtain ⟨q,hq⟩:∃ q,q=k/4:=⟨_,rfl⟩
    obtain ⟨r,hr⟩:∃ r,r=k % 4:=⟨_,rfl⟩
    obtain ⟨s,hs⟩:∃ s,s=k % 4*8:=⟨_,rfl⟩
    have hql:q<l:=by
     have h3:=led_len_le N (4*l) (by have:=dig_lt N; rw [← hl,p32] at this; rw [p256]; rwa [show 8*(4*l)=32*l by omega])
     have:=HM.out
     omega
    obtain ⟨g,p,rfl,hall⟩:=h2.open_ (by omega)
    have hc:=hall q hql
    obtain ⟨x,hx'⟩:∃ x,x=N/4294967296^q % 4294967296:=⟨_,rfl⟩
    have hx32:x<4294967296:=by rw [hx']; exact Nat.mod_lt _ (by decide)
    replace hc:wr.cell? ⟨g,p+q,none⟩=some (.int .u32 (x:Int)):=by rw [hx',← dig_getD]; exact hc
    obtain ⟨y,hy⟩:∃ y,y=x/2^s:=⟨_,rfl⟩
    have hsh:(x:Int)/2^s=(y:Int):=by rw [hy,Int.natCast_ediv]; simp
    have hyb:y<4294967296:=by rw [hy]; exact Nat.lt_of_le_of_lt (Nat.div_le_self _ _) hx32
    have hbyte:y % 256=N/256^k % 256:=by rw [hy,hx',hq,hs]; exact byte_word N k
    have HBY:=Lib.hid hbyte
    have hqi:(k:Int)/4=(q:Int):=by omega
    have hri:(k:Int) % 4=(r:Int):=by omega
    have hsi:(r:Int)*8=(s:Int):=by omega
    have hs24:s≤24:=by omega
    have hmk2:((m:Int)-1-(k:Int))=((m-1-k:Nat):Int):=by omega
    have hc2:=hbuf'.cell (m-1-k) (by rw [List.length_append,List.length_replicate]; omega)
    have hf:=hbuf'.frozen (m-1-k)
    have HB:=Lib.hid (hbuf'.set (m-1-k) (y % 256) _ (Nat.mod_lt _ (by decide)) rfl)
    have HH:=Lib.hid hb'
    clear hall h0 h2 hx hl hx' hy hbyte hbuf' hb' hq hr hs
    go_wp2
    go_roundw
    case rel =>
     refine ⟨k+1,by omega,by go_num,?_,HH.out.setCell (Nat.le_refl _) _⟩
     have h:=HB.out
     have h2:=led_back N m k HM.out hk0
     rw [← HBY.out] at h2
     rw [h2] at h
     exact h
    case measure=>simp [intOf]; omega
  · obtain rfl:k=m:=by omega
    rw [Nat.sub_self,List.replicate_zero,List.nil_append,List.drop_zero] at hbuf'
    have HV:=Lib.hid (hbuf'.byt (n:=k) (cap:=k) (by rw [List.length_reverse]; exact HM.out))
    clear hbuf'
    go_wp2
    go_ret
    exact ⟨_,rfl,by rw [← HN.out]; exact HV.out,HB1.out.trans (hb'.mono HS1.out)⟩
theorem empty_data {s:ByteArray} (h:s.size=0):s=⟨#[]⟩:=by
 obtain ⟨d⟩:=s
 congr 1
 exact Array.eq_empty_of_size_eq_zero h
theorem toList_some {s:ByteArray} (h:s.size≠0):s.toList.isEmpty=false∧¬ s.toList=[]:=by
 have h2:¬ s.toList=[]:=by
  rw [ByteArray.toList_eq]
  intro e
  have e2:s.data.toList.length=0:=by rw [e]; rfl
  have e3:s.data.size=0:=by rw [← Array.length_toList]; exact e2
  exact h e3
 exact ⟨by cases hl:s.toList with
  | nil=>exact absurd hl h2
  | cons a r=>rfl,h2⟩
def head (s:ByteArray):Nat:=(leS s).getD (s.size-1) 0
theorem head_eq {s:ByteArray} (h:0<s.size):s[0].toNat=head s:=by
 unfold head
 rw [leS_getD s _ (by omega)]
 have e:s.size-1-(s.size-1)=0:=by omega
 simp only [e]
 rfl
def WholeOk (b:Bool) (s:ByteArray):Prop:=(s.size=0∧b=false∨s.size≠0∧head s≠0)∧s.size≤16384
def numOf (b:Bool) (s:ByteArray):Int:=sg b (num s)
theorem ok_wholeV (n:Int) (h:(mag n.natAbs).size≤16384):WholeOk (decide (n<0)) (mag n.natAbs):=by
 refine ⟨?_,h⟩
 rcases mag_lean n.natAbs with k | k
 · refine .inl ⟨k,?_⟩
   rw [mag_size] at k
   have:=(led_nil_iff _).1 (List.eq_nil_of_length_eq_zero k)
   simp; omega
 · by_cases h0:(mag n.natAbs).size=0
   · refine .inl ⟨h0,?_⟩
     rw [mag_size] at h0
     have:=(led_nil_iff _).1 (List.eq_nil_of_length_eq_zero h0)
     simp; omega
   · exact .inr ⟨h0,k⟩
theorem numOf_mag (n:Int):numOf (decide (n<0)) (mag n.natAbs)=n:=by
 unfold numOf
 rw [num_mag,sg_of]
end Go.Proofs.YtdiemgedlfnlmaaGreat
end
