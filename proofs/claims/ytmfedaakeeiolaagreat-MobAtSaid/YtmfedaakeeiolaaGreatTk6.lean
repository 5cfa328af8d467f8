/- Int, IntB. -/
import Derived.Test.YtmfedaakeeiolaaGreatTk5
set_option linter.unnecessarySimpa false
set_option linter.unusedVariables false
set_option linter.unusedSimpArgs false
section
namespace Go.Proofs.YtmfedaakeeiolaaGreat
open Go.RowKit
def sg (neg:Bool) (m:Nat):Int:=if neg then -(m:Int) else (m:Int)
theorem sg_natAbs (neg:Bool) (m:Nat):(sg neg m).natAbs=m:=by cases neg<;>simp [sg]
theorem sg_neg (neg:Bool) (m:Nat):decide (sg neg m<0)=(neg&&decide (0<m)):=by
 cases neg<;>simp [sg]
theorem sg_of (n:Int):sg (decide (n<0)) n.natAbs=n:=by
 unfold sg
 split<;>rename_i h<;>simp at h<;>omega
theorem len_pos (m:Nat):decide (0<(dig m).length)=decide (0<m):=by
 rw [decide_eq_decide]
 have:=dig_nil_iff m
 constructor
 · intro h
   rcases Nat.eq_zero_or_pos m with h0 | h0
   · rw [this.2 h0] at h; simp at h
   · exact h0
 · intro h
   rcases Nat.eq_zero_or_pos (dig m).length with h0 | h0
   · have:=this.1 (List.eq_nil_of_length_eq_zero h0); omega
   · exact h0
theorem intAt_set {w:World} {b o:Nat} {A:Option Addr} {cap:Nat} {xs:List Nat} {neg:Bool} (hs:Slot w b o 2) (hw:Words w (.slice A (trim xs).length cap) (trim xs)) (hwf:Wf xs) (c:Bool) (hc:c=(neg&&decide (0<(trim xs).length))) :
  IntAt ((w.setCell ⟨b,o+1,none⟩ (.slice A (trim xs).length cap)).setCell ⟨b,o,none⟩ (.bool c)) b o (sg neg (val xs)) ∧
  Touch w ((w.setCell ⟨b,o+1,none⟩ (.slice A (trim xs).length cap)).setCell ⟨b,o,none⟩ (.bool c)) b o 2:=by
 have ht:Touch w ((w.setCell ⟨b,o+1,none⟩ (.slice A (trim xs).length cap)).setCell ⟨b,o,none⟩ (.bool c)) b o 2 :=
  ((Touch.refl w b o 2).set_ (o+1) (by omega) _).set_ o (by omega) _
 obtain ⟨cs,t,h1,h2,h3⟩:=id hs
 have hb:((w.setCell ⟨b,o+1,none⟩ (.slice A (trim xs).length cap)).setCell ⟨b,o,none⟩ (.bool c)).heap[b]?=some (.cells ((cs.setIfInBounds (o+1) (.slice A (trim xs).length cap)).setIfInBounds o (.bool c)) t (0,0)):=by
  simp [World.setCell,Array.getElem?_modify,h1]
 have hd:trim xs=dig (val xs):=dig_of xs _ hwf rfl
 refine ⟨⟨hs.touch ht,?_,.slice A (trim xs).length cap,?_,?_⟩,ht⟩
 · rw [cell_of_row _ _ _ _ _ _ hb,Array.getElem?_setIfInBounds_self_of_lt (by simp; omega),sg_neg,hc,hd,len_pos]
 · rw [cell_of_row _ _ _ _ _ _ hb,Array.getElem?_setIfInBounds_ne (by omega),Array.getElem?_setIfInBounds_self_of_lt (by omega)]
 · rw [sg_natAbs,← hd]
   exact hw.touch hs ht
theorem is_any {w:World} {b o:Nat} {A:Option Addr} {n cap:Nat} {xs:List Nat} (neg:Bool) (hs:Slot w b o 2) (hw:Words w (.slice A n cap) xs) :
  Calls Tryz.prog 342 #[.pointer (some ⟨b,o,none⟩),.bool neg,.slice A n cap] w fun e w'=>e=.returned (.pointer (some ⟨b,o,none⟩))∧IntAt w' b o (sg neg (val xs))∧Touch w w' b o 2:=by
 obtain ⟨v0,hc0⟩:=hs.cell o (by omega)
 obtain ⟨v1,hc1⟩:=hs.cell (o+1) (by omega)
 have hf0:=hs.frozen o
 have hf1:=hs.frozen (o+1)
 have HW:=Lib.hid hw
 have hset:=fun c hc=>intAt_set (neg:=neg) (c:=c) hs hw.trim_ hw.1 hc
 have HS:=Lib.hid hset
 have hml:=(trim_length_le xs)
 have hnl:=hw.2.1
 clear hset hw hs
 obtain ⟨m,hm⟩:∃ m,m=(trim xs).length:=⟨_,rfl⟩
 rw [← hm] at HS
 have hmb:m≤17179869184:=by omega
 have HM:=Lib.hid hm
 clear hm hml hnl
 cases neg
 all_goals
  go_enter Tryz.func342,Tryz.ntmps342
  go_wp2_with (go_at_call 376; refine (cut_any HW.out).mono ?_; rw [← HM.out]; rintro e w2 ⟨rfl,rfl⟩)
  go_ret
  exact ⟨rfl,HS.out _ (by simp)⟩
theorem set_any {w:World} {b o c p:Nat} {n:Int} (hz:Slot w b o 2) (hx:IntAt w c p n) :
  Calls Tryz.prog 328 #[.pointer (some ⟨b,o,none⟩),.pointer (some ⟨c,p,none⟩)] w fun e w'=>e=.returned (.pointer (some ⟨b,o,none⟩))∧IntAt w' b o n∧Touch w w' b o 2:=by
 have HX:=Lib.hid hx
 have HZ:=Lib.hid hz
 obtain ⟨_,hc0,v,hc1,hv⟩:=hx
 obtain ⟨A,m,cap,rfl⟩:=hv.form
 have HV:=Lib.hid hv
 have HC0:=Lib.hid hc0
 have HC1:=Lib.hid hc1
 have hlt:c<w.heap.size:=HX.out.lt
 clear hz hv hc0 hc1
 go_enter Tryz.func328,Tryz.ntmps328
 go_wp2
 refine wp_region_acts 10 (fun w'=>Below w.heap.size w w') (fun w w'=>Below w.heap.size w w') (fun i w v=>match i with
   | 0=>v=.pointer (some ⟨b,o,none⟩)
   | 1=>v=.pointer (some ⟨c,p,none⟩)
   | 2=>v=.pointer (some ⟨c,p,none⟩)
   | 3=>v=.pointer (some ⟨c,p,none⟩)
   | 4=>v=.bool (decide (n<0))
   | 5=>v=.pointer (some ⟨c,p,none⟩)
   | 6=>v=.pointer (some ⟨c,p,none⟩)
   | 7=>v=.pointer (some ⟨c,p+1,none⟩)
   | 8=>v=.slice A m cap
   | _=>∃ A' m' c',v=.slice A' m' c'∧Words w (.slice A' m' c') (dig n.natAbs)) (by kernel_rfl) (by kernel_rfl) (by kernel_rfl) ((Below.refl _ _).drew) (fun _ _=>Below.refl _ _) ?_ ⟨?_,?_,?_,?_,?_,?_,?_,?_,?_,?_,trivial⟩ ?_
 · intro i w1 w2 v hC hC2 hE hV
   match i with
   | 0=>exact hV
   | 1=>exact hV
   | 2=>exact hV
   | 3=>exact hV
   | 4=>exact hV
   | 5=>exact hV
   | 6=>exact hV
   | 7=>exact hV
   | 8=>exact hV
   | _+9=>obtain ⟨A',m',c',e,h⟩:=hV; exact ⟨A',m',c',e,h.below hE⟩
 · intro a' w' hag hC hd K hK
   have e0:a'.tmps.getD 0 undef=.pointer (some ⟨b,o,none⟩):=hag 0 rfl
   go_step
   exact hK _ _ hC (Below.refl _ _) rfl
 · intro a' w' hag hC hd K hK
   have e1:a'.tmps.getD 1 undef=.pointer (some ⟨c,p,none⟩):=hag 1 rfl
   go_step
   exact hK _ _ hC (Below.refl _ _) rfl
 · intro a' w' hag hC hd K hK
   have e6:a'.tmps.getD 6 undef=.pointer (some ⟨c,p,none⟩):=hd.1
   go_step
   exact hK _ _ hC (Below.refl _ _) rfl
 · intro a' w' hag hC hd K hK
   have e7:a'.tmps.getD 7 undef=.pointer (some ⟨c,p,none⟩):=hd.1
   go_step
   exact hK _ _ hC (Below.refl _ _) rfl
 · intro a' w' hag hC hd K hK
   have e8:a'.tmps.getD 8 undef=.pointer (some ⟨c,p,none⟩):=hd.1
   have hcell:w'.cell? ⟨c,p,none⟩=some (.bool (decide (n<0))):=by rw [hC.cell (p:=⟨c,p,none⟩) hlt]; exact HC0.out
   have HC:=Lib.hid hC
   clear hC
   go_step
   exact hK _ _ HC.out (Below.refl _ _) rfl
 · intro a' w' hag hC hd K hK
   have e1:a'.tmps.getD 1 undef=.pointer (some ⟨c,p,none⟩):=hag 1 rfl
   go_step
   exact hK _ _ hC (Below.refl _ _) rfl
 · intro a' w' hag hC hd K hK
   have e10:a'.tmps.getD 10 undef=.pointer (some ⟨c,p,none⟩):=hd.1
   go_step
   exact hK _ _ hC (Below.refl _ _) rfl
 · intro a' w' hag hC hd K hK
   have e11:a'.tmps.getD 11 undef=.pointer (some ⟨c,p,none⟩):=hd.1
   go_step
   exact hK _ _ hC (Below.refl _ _) rfl
 · intro a' w' hag hC hd K hK
   have e12:a'.tmps.getD 12 undef=.pointer (some ⟨c,p+1,none⟩):=hd.1
   have hcell:w'.cell? ⟨c,p+1,none⟩=some (.slice A m cap):=by rw [hC.cell (p:=⟨c,p+1,none⟩) hlt]; exact HC1.out
   have HC:=Lib.hid hC
   clear hC
   go_step
   exact hK _ _ HC.out (Below.refl _ _) rfl
 · intro a' w' hag hC hd K hK
   have e13:a'.tmps.getD 13 undef=.slice A m cap:=hd.1
   refine wp_append_copy (.const (.slice none 0 0)) (.tmp 13) rfl rfl e13 (HV.out.below hC) (fun v' w2 h1 h2=>?_)
   obtain ⟨A',m',c',rfl⟩:=h1.form
   exact hK _ _ (hC.trans (h2.mono hC.size)) h2 ⟨_,_,_,rfl,h1⟩
 · intro u w' hC hall
   obtain ⟨u0,u1,u2,u3,u4,u5,u6,u7,u8,u9,_⟩:=hall
   have u0:u 0=.pointer (some ⟨b,o,none⟩):=u0
   have u1:u 1=.pointer (some ⟨c,p,none⟩):=u1
   have u2:u 2=.pointer (some ⟨c,p,none⟩):=u2
   have u3:u 3=.pointer (some ⟨c,p,none⟩):=u3
   have u4:u 4=.bool (decide (n<0)):=u4
   have u5:u 5=.pointer (some ⟨c,p,none⟩):=u5
   have u6:u 6=.pointer (some ⟨c,p,none⟩):=u6
   have u7:u 7=.pointer (some ⟨c,p+1,none⟩):=u7
   have u8:u 8=.slice A m cap:=u8
   obtain ⟨A',m',c',eu9,hw'⟩:=u9
   have u9:u 9=.slice A' m' c':=eu9
   simp only [fillR,List.take_succ_cons,List.take_zero,Act.put,List.setIfInBounds_toArray,List.set_cons_succ,List.set_cons_zero,Nat.zero_add,Nat.reduceAdd,u0,u1,u2,u3,u4,u5,u6,u7,u8,u9]
   clear u0 u1 u2 u3 u4 u5 u6 u7 u8 u9
   have HW:=Lib.hid hw'
   have HC:=Lib.hid hC
   have hsl:=HZ.out.on hC
   clear hw' hC
   go_wp2_with (go_at_call 342; refine (is_any (decide (n<0)) hsl HW.out).mono ?_; rintro e w2 ⟨rfl,h1,h2⟩)
   go_ret
   rw [val_dig,sg_of] at h1
   exact ⟨rfl,h1,(Touch.of_below HC.out _ _ _).trans h2⟩
theorem sign_any {w:World} {b o:Nat} {n:Int} (hx:IntAt w b o n) :
  Calls Tryz.prog 287 #[.pointer (some ⟨b,o,none⟩)] w fun e w'=>e=.returned (.int .i64 n.sign)∧w=w':=by
 obtain ⟨_,hc0,v,hc1,hv⟩:=hx
 obtain ⟨A,m,cap,rfl⟩:=hv.form
 have hm:=hv.len.1
 have hd:=dig_nil_iff n.natAbs
 have hb:=hv.2.1
 rcases Int.lt_trichotomy n 0 with h | h | h
 · have hs:n.sign = -1:=Int.sign_eq_neg_one_of_neg h
   have hdn:decide (n<0)=true:=by simpa using h
   have hm1:0<m:=by
    rcases Nat.eq_zero_or_pos m with h0 | h0
    · have:=hd.1 (List.eq_nil_of_length_eq_zero (by omega)); omega
    · exact h0
   have hmb:m≤17179869184:=by omega
   have hm2:((m:Int)==0)=false:=by rw [beq_eq_false_iff_ne]; omega
   rw [hdn] at hc0
   rw [hs]
   clear hm hd hb hv hs hdn h
   go_enter Tryz.func287,Tryz.ntmps287
   go_wp2
   go_ret
   exact ⟨rfl,rfl⟩
 · subst h
   have hm0:m=0:=by rw [hm,hd.2 rfl]; rfl
   subst hm0
   clear hm hd hb hv
   go_enter Tryz.func287,Tryz.ntmps287
   go_wp2
   go_ret
   exact ⟨rfl,rfl⟩
 · have hs:n.sign=1:=Int.sign_eq_one_of_pos h
   have hdn:decide (n<0)=false:=by simp; omega
   have hm1:0<m:=by
    rcases Nat.eq_zero_or_pos m with h0 | h0
    · have:=hd.1 (List.eq_nil_of_length_eq_zero (by omega)); omega
    · exact h0
   have hmb:m≤17179869184:=by omega
   have hm2:((m:Int)==0)=false:=by rw [beq_eq_false_iff_ne]; omega
   rw [hdn] at hc0
   rw [hs]
   clear hm hd hb hv hs hdn h
   go_enter Tryz.func287,Tryz.ntmps287
   go_wp2
   go_ret
   exact ⟨rfl,rfl⟩
theorem intAt_sign {w:World} {b o:Nat} {n n':Int} (h:IntAt w b o n) (hn:n'.natAbs=n.natAbs) (c:Bool) (hc:c=decide (n'<0)) :
  IntAt (w.setCell ⟨b,o,none⟩ (.bool c)) b o n'∧Touch w (w.setCell ⟨b,o,none⟩ (.bool c)) b o 2:=by
 have ht:Touch w (w.setCell ⟨b,o,none⟩ (.bool c)) b o 2:=(Touch.refl w b o 2).set_ o (by omega) _
 obtain ⟨hs,_,v,hc1,hv⟩:=h
 obtain ⟨cs,t,h1,h2,h3⟩:=id hs
 have hb:(w.setCell ⟨b,o,none⟩ (.bool c)).heap[b]?=some (.cells (cs.setIfInBounds o (.bool c)) t (0,0)):=by
  simp [World.setCell,Array.getElem?_modify,h1]
 refine ⟨⟨hs.touch ht,?_,v,?_,?_⟩,ht⟩
 · rw [cell_of_row _ _ _ _ _ _ hb,Array.getElem?_setIfInBounds_self_of_lt (by omega),hc]
 · rw [cell_of_row _ _ _ _ _ _ hb,Array.getElem?_setIfInBounds_ne (by omega),← cell_of_row w b (o+1) cs t (0,0) h1]
   exact hc1
 · rw [hn]
   exact hv.touch hs ht
theorem neg_any {w:World} {b o c p:Nat} {n:Int} (hz:Slot w b o 2) (hx:IntAt w c p n) :
  Calls Tryz.prog 320 #[.pointer (some ⟨b,o,none⟩),.pointer (some ⟨c,p,none⟩)] w fun e w'=>e=.returned (.pointer (some ⟨b,o,none⟩))∧IntAt w' b o (-n)∧Touch w w' b o 2:=by
 have HX:=Lib.hid hx
 have HZ:=Lib.hid hz
 clear hx hz
 go_enter Tryz.func320,Tryz.ntmps320
 go_wp2_with fail
 refine (set_any HZ.out HX.out).mono ?_
 rintro e w1 ⟨rfl,h1,h2⟩
 obtain ⟨hs,hc0,v,hc1,hv⟩:=id h1
 obtain ⟨A,m,cap,rfl⟩:=hv.form
 have hm:=hv.len.1
 have hmb:m≤17179869184:=by have:=hv.2.1; omega
 have hlp:=len_pos n.natAbs
 rw [← hm] at hlp
 have hf:=hs.frozen o
 have HS:=Lib.hid fun c hc=>intAt_sign (n':=-n) h1 (by omega) c hc
 have H2:=Lib.hid h2
 have HLP:=Lib.hid hlp
 clear h1 h2 hs hv hm hlp
 by_cases h:n<0
 · have hd:decide (n<0)=true:=by simpa using h
   rw [hd] at hc0
   clear hd
   go_wp2
   go_ret
   have h3:=HS.out _ (show false=decide (-n<0) by simp; omega)
   exact ⟨rfl,h3.1,H2.out.trans h3.2⟩
 · have hd:decide (n<0)=false:=by simp; omega
   rw [hd] at hc0
   clear hd
   go_wp2
   go_ret
   have h3:=HS.out (decide (0<m)) (by rw [HLP.out,decide_eq_decide]; omega)
   exact ⟨rfl,h3.1,H2.out.trans h3.2⟩
theorem of_any {w:World} (n:Nat) (hn:n≤18446744073709551615) :
  Calls Tryz.prog 367 #[.int .u64 (n:Int)] w fun e w'=>∃ v,e=.returned v∧Words w' v (dig n)∧Below w.heap.size w w':=by
 have e1:trim [n % 4294967296,n/4294967296]=dig n:=dig_of _ _ (Wf.cons (by omega) (Wf.cons (by omega) Wf.nil)) (by simp only [val]; omega)
 have hw:=words_two w (n % 4294967296) (n/4294967296) ((n:Int) % 4294967296) ((n:Int)/4294967296) (by omega) (by omega) (by omega) (by omega)
 have HE:=Lib.hid e1
 have HW:=Lib.hid hw
 have hq:(n:Int)/4294967296≤4294967295:=by omega
 clear e1 hw
 go_enter Tryz.func367,Tryz.ntmps367
 go_wp2_with (go_at_call 376; refine (cut_any HW.out).mono ?_; rintro e w2 ⟨rfl,rfl⟩)
 go_ret
 refine ⟨_,rfl,?_,(Below.refl _ _).alloc (Nat.le_refl _) _⟩
 have h:=HW.out.trim_
 rw [HE.out] at h ⊢
 exact h
theorem IntAt.open_ {w:World} {b o:Nat} {n:Int} (h:IntAt w b o n):∃ A m cap,w.cell? ⟨b,o,none⟩=some (.bool (decide (n<0)))∧w.cell? ⟨b,o+1,none⟩=some (.slice A m cap)∧Words w (.slice A m cap) (dig n.natAbs)∧b<w.heap.size:=by
 have hlt:=h.lt
 obtain ⟨_,hc0,v,hc1,hv⟩:=h
 obtain ⟨A,m,cap,rfl⟩:=hv.form
 exact ⟨A,m,cap,hc0,hc1,hv,hlt⟩
theorem sg_mul (n m:Int):sg (decide (n<0) != decide (m<0)) (n.natAbs*m.natAbs)=n*m:=by
 have e1:((n.natAbs*m.natAbs:Nat):Int)=(n.natAbs:Int)*(m.natAbs:Int):=Int.natCast_mul _ _
 by_cases h:n<0<;>by_cases k:m<0
 · have a1:(n.natAbs:Int) = -n:=by omega
   have a2:(m.natAbs:Int) = -m:=by omega
   simp [sg,h,k,e1,a1,a2,Int.neg_mul,Int.mul_neg]
 · have a1:(n.natAbs:Int) = -n:=by omega
   have a2:(m.natAbs:Int)=m:=by omega
   simp [sg,h,k,e1,a1,a2,Int.neg_mul,Int.mul_neg]
 · have a1:(n.natAbs:Int)=n:=by omega
   have a2:(m.natAbs:Int) = -m:=by omega
   simp [sg,h,k,e1,a1,a2,Int.neg_mul,Int.mul_neg]
 · have a1:(n.natAbs:Int)=n:=by omega
   have a2:(m.natAbs:Int)=m:=by omega
   simp [sg,h,k,e1,a1,a2,Int.neg_mul,Int.mul_neg]
def Okn (n:Int):Prop:=(dig n.natAbs).length≤4294967296
theorem mul_any {w:World} {b o c p d q:Nat} {n m:Int} (hz:Slot w b o 2) (hx:IntAt w c p n) (hy:IntAt w d q m) (hn:Okn n) (hm:Okn m) :
  Calls Tryz.prog 284 #[.pointer (some ⟨b,o,none⟩),.pointer (some ⟨c,p,none⟩),.pointer (some ⟨d,q,none⟩)] w fun e w'=>e=.returned (.pointer (some ⟨b,o,none⟩))∧IntAt w' b o (n*m)∧Touch w w' b o 2:=by
 obtain ⟨A,la,ca,hx0,hx1,hxv,hxl⟩:=hx.open_
 obtain ⟨B,lb,cb,hy0,hy1,hyv,hyl⟩:=hy.open_
 have hla:la≤4294967296:=by have:=hxv.len.1; unfold Okn at hn; omega
 have hlb:lb≤4294967296:=by have:=hyv.len.1; unfold Okn at hm; omega
 have HX0:=Lib.hid hx0
 have HX1:=Lib.hid hx1
 have HXV:=Lib.hid hxv
 have HY0:=Lib.hid hy0
 have HY1:=Lib.hid hy1
 have HYV:=Lib.hid hyv
 have HZ:=Lib.hid hz
 clear hx hy hx0 hx1 hxv hy0 hy1 hyv hz hn hm
 go_enter Tryz.func284,Tryz.ntmps284
 go_wp2
 refine wp_region_acts 19 (fun w'=>Below w.heap.size w w') (fun w w'=>Below w.heap.size w w') (fun i w v=>match i with
   | 0=>v=.pointer (some ⟨b,o,none⟩)
   | 1=>v=.pointer (some ⟨c,p,none⟩)
   | 2=>v=.pointer (some ⟨c,p,none⟩)
   | 3=>v=.pointer (some ⟨c,p,none⟩)
   | 4=>v=.bool (decide (n<0))
   | 5=>v=.pointer (some ⟨d,q,none⟩)
   | 6=>v=.pointer (some ⟨d,q,none⟩)
   | 7=>v=.pointer (some ⟨d,q,none⟩)
   | 8=>v=.bool (decide (m<0))
   | 9=>v=.bool (decide (n<0) != decide (m<0))
   | 10=>v=.pointer (some ⟨c,p,none⟩)
   | 11=>v=.pointer (some ⟨c,p,none⟩)
   | 12=>v=.pointer (some ⟨c,p+1,none⟩)
   | 13=>v=.slice A la ca
   | 14=>v=.pointer (some ⟨d,q,none⟩)
   | 15=>v=.pointer (some ⟨d,q,none⟩)
   | 16=>v=.pointer (some ⟨d,q+1,none⟩)
   | 17=>v=.slice B lb cb
   | _=>∃ A' m' c' zs,v=.slice A' m' c'∧Words w (.slice A' m' c') zs∧val zs=val (dig n.natAbs)*val (dig m.natAbs)) (by kernel_rfl) (by kernel_rfl) (by kernel_rfl) ((Below.refl _ _).drew) (fun _ _=>Below.refl _ _) ?_ ⟨?_,?_,?_,?_,?_,?_,?_,?_,?_,?_,?_,?_,?_,?_,?_,?_,?_,?_,?_,trivial⟩ ?_
 · intro i w1 w2 v hC hC2 hE hV
   match i with
   | 0=>exact hV
   | 1=>exact hV
   | 2=>exact hV
   | 3=>exact hV
   | 4=>exact hV
   | 5=>exact hV
   | 6=>exact hV
   | 7=>exact hV
   | 8=>exact hV
   | 9=>exact hV
   | 10=>exact hV
   | 11=>exact hV
   | 12=>exact hV
   | 13=>exact hV
   | 14=>exact hV
   | 15=>exact hV
   | 16=>exact hV
   | 17=>exact hV
   | _+18=>obtain ⟨A',m',c',zs,e,h,hz⟩:=hV; exact ⟨A',m',c',zs,e,h.below hE,hz⟩
 · intro a' w' hag hC hd K hK
   have e0:a'.tmps.getD 0 undef=.pointer (some ⟨b,o,none⟩):=hag 0 rfl
   go_step
   exact hK _ _ hC (Below.refl _ _) rfl
 · intro a' w' hag hC hd K hK
   have e1:a'.tmps.getD 1 undef=.pointer (some ⟨c,p,none⟩):=hag 1 rfl
   go_step
   exact hK _ _ hC (Below.refl _ _) rfl
 · intro a' w' hag hC hd K hK
   have e8:a'.tmps.getD 8 undef=.pointer (some ⟨c,p,none⟩):=hd.1
   go_step
   exact hK _ _ hC (Below.refl _ _) rfl
 · intro a' w' hag hC hd K hK
   have e9:a'.tmps.getD 9 undef=.pointer (some ⟨c,p,none⟩):=hd.1
   go_step
   exact hK _ _ hC (Below.refl _ _) rfl
 · intro a' w' hag hC hd K hK
   have e10:a'.tmps.getD 10 undef=.pointer (some ⟨c,p,none⟩):=hd.1
   have hcell:w'.cell? ⟨c,p,none⟩=some (.bool (decide (n<0))):=by rw [hC.cell (p:=⟨c,p,none⟩) hxl]; exact HX0.out
   have HC:=Lib.hid hC
   clear hC
   go_step
   exact hK _ _ HC.out (Below.refl _ _) rfl
 · intro a' w' hag hC hd K hK
   have e2:a'.tmps.getD 2 undef=.pointer (some ⟨d,q,none⟩):=hag 2 rfl
   go_step
   exact hK _ _ hC (Below.refl _ _) rfl
 · intro a' w' hag hC hd K hK
   have e12:a'.tmps.getD 12 undef=.pointer (some ⟨d,q,none⟩):=hd.1
   go_step
   exact hK _ _ hC (Below.refl _ _) rfl
 · intro a' w' hag hC hd K hK
   have e13:a'.tmps.getD 13 undef=.pointer (some ⟨d,q,none⟩):=hd.1
   go_step
   exact hK _ _ hC (Below.refl _ _) rfl
 · intro a' w' hag hC hd K hK
   have e14:a'.tmps.getD 14 undef=.pointer (some ⟨d,q,none⟩):=hd.1
   have hcell:w'.cell? ⟨d,q,none⟩=some (.bool (decide (m<0))):=by rw [hC.cell (p:=⟨d,q,none⟩) hyl]; exact HY0.out
   have HC:=Lib.hid hC
   clear hC
   go_step
   exact hK _ _ HC.out (Below.refl _ _) rfl
 · intro a' w' hag hC hd K hK
   have e11:a'.tmps.getD 11 undef=.bool (decide (n<0)):=hd.1
   have e15:a'.tmps.getD 15 undef=.bool (decide (m<0)):=hd.2.1
   go_step
   exact hK _ _ hC (Below.refl _ _) rfl
 · intro a' w' hag hC hd K hK
   have e1:a'.tmps.getD 1 undef=.pointer (some ⟨c,p,none⟩):=hag 1 rfl
   go_step
   exact hK _ _ hC (Below.refl _ _) rfl
 · intro a' w' hag hC hd K hK
   have e17:a'.tmps.getD 17 undef=.pointer (some ⟨c,p,none⟩):=hd.1
   go_step
   exact hK _ _ hC (Below.refl _ _) rfl
 · intro a' w' hag hC hd K hK
   have e18:a'.tmps.getD 18 undef=.pointer (some ⟨c,p,none⟩):=hd.1
   go_step
   exact hK _ _ hC (Below.refl _ _) rfl
 · intro a' w' hag hC hd K hK
   have e19:a'.tmps.getD 19 undef=.pointer (some ⟨c,p+1,none⟩):=hd.1
   have hcell:w'.cell? ⟨c,p+1,none⟩=some (.slice A la ca):=by rw [hC.cell (p:=⟨c,p+1,none⟩) hxl]; exact HX1.out
   have HC:=Lib.hid hC
   clear hC
   go_step
   exact hK _ _ HC.out (Below.refl _ _) rfl
 · intro a' w' hag hC hd K hK
   have e2:a'.tmps.getD 2 undef=.pointer (some ⟨d,q,none⟩):=hag 2 rfl
   go_step
   exact hK _ _ hC (Below.refl _ _) rfl
 · intro a' w' hag hC hd K hK
   have e21:a'.tmps.getD 21 undef=.pointer (some ⟨d,q,none⟩):=hd.1
   go_step
   exact hK _ _ hC (Below.refl _ _) rfl
 · intro a' w' hag hC hd K hK
   have e22:a'.tmps.getD 22 undef=.pointer (some ⟨d,q,none⟩):=hd.1
   go_step
   exact hK _ _ hC (Below.refl _ _) rfl
 · intro a' w' hag hC hd K hK
   have e23:a'.tmps.getD 23 undef=.pointer (some ⟨d,q+1,none⟩):=hd.1
   have hcell:w'.cell? ⟨d,q+1,none⟩=some (.slice B lb cb):=by rw [hC.cell (p:=⟨d,q+1,none⟩) hyl]; exact HY1.out
   have HC:=Lib.hid hC
   clear hC
   go_step
   exact hK _ _ HC.out (Below.refl _ _) rfl
 · intro a' w' hag hC hd K hK
   have e20:a'.tmps.getD 20 undef=.slice A la ca:=hd.1
   have e24:a'.tmps.getD 24 undef=.slice B lb cb:=hd.2.1
   go_step
   refine (product_any (HXV.out.below hC) (HYV.out.below hC) (by omega) (by omega)).mono ?_
   rintro e w2 ⟨v,zs,rfl,h1,h2,h3⟩
   obtain ⟨A',m',c',rfl⟩:=h1.form
   exact hK _ _ (hC.trans (h3.mono hC.size)) h3 ⟨_,_,_,_,rfl,h1,h2⟩
 · intro u w' hC hall
   obtain ⟨u0,u1,u2,u3,u4,u5,u6,u7,u8,u9,u10,u11,u12,u13,u14,u15,u16,u17,u18,_⟩:=hall
   have u0:u 0=.pointer (some ⟨b,o,none⟩):=u0
   have u1:u 1=.pointer (some ⟨c,p,none⟩):=u1
   have u2:u 2=.pointer (some ⟨c,p,none⟩):=u2
   have u3:u 3=.pointer (some ⟨c,p,none⟩):=u3
   have u4:u 4=.bool (decide (n<0)):=u4
   have u5:u 5=.pointer (some ⟨d,q,none⟩):=u5
   have u6:u 6=.pointer (some ⟨d,q,none⟩):=u6
   have u7:u 7=.pointer (some ⟨d,q,none⟩):=u7
   have u8:u 8=.bool (decide (m<0)):=u8
   have u9:u 9=.bool (decide (n<0) != decide (m<0)):=u9
   have u10:u 10=.pointer (some ⟨c,p,none⟩):=u10
   have u11:u 11=.pointer (some ⟨c,p,none⟩):=u11
   have u12:u 12=.pointer (some ⟨c,p+1,none⟩):=u12
   have u13:u 13=.slice A la ca:=u13
   have u14:u 14=.pointer (some ⟨d,q,none⟩):=u14
   have u15:u 15=.pointer (some ⟨d,q,none⟩):=u15
   have u16:u 16=.pointer (some ⟨d,q+1,none⟩):=u16
   have u17:u 17=.slice B lb cb:=u17
   obtain ⟨A',m',c',zs,eu18,hw',hzs⟩:=u18
   have u18:u 18=.slice A' m' c':=eu18
   simp only [fillR,List.take_succ_cons,List.take_zero,Act.put,List.setIfInBounds_toArray,List.set_cons_succ,List.set_cons_zero,Nat.zero_add,Nat.reduceAdd,u0,u1,u2,u3,u4,u5,u6,u7,u8,u9,u10,u11,u12,u13,u14,u15,u16,u17,u18]
   clear u0 u1 u2 u3 u4 u5 u6 u7 u8 u9 u10 u11 u12 u13 u14 u15 u16 u17 u18
   have HW:=Lib.hid hw'
   have HC:=Lib.hid hC
   have hsl:=HZ.out.on hC
   have HZS:=Lib.hid hzs
   clear hw' hC hzs
   go_wp2_with (go_at_call 342; refine (is_any _ hsl HW.out).mono ?_; rintro e w2 ⟨rfl,h1,h2⟩)
   go_ret
   refine ⟨rfl,?_,(Touch.of_below HC.out _ _ _).trans h2⟩
   rw [HZS.out,val_dig,val_dig,sg_mul] at h1
   exact h1
theorem cmpN_lss {n m:Nat} (h:n<m):decide (0≤cmpN n m)=false:=by rw [cmpN_lt h]; rfl
theorem cmpN_geq {n m:Nat} (h:m≤n):decide (0≤cmpN n m)=true:=by rw [decide_eq_true_eq]; exact cmpN_ge h
theorem add_any {w:World} {b o c p d q:Nat} {n m:Int} (neg:Bool) (hz:Slot w b o 2) (hx:IntAt w c p n) (hy:IntAt w d q m) (hn:Okn n) (hm:Okn m) :
  Calls Tryz.prog 329 #[.pointer (some ⟨b,o,none⟩),.pointer (some ⟨c,p,none⟩),.pointer (some ⟨d,q,none⟩),.bool neg] w fun e w'=>e=.returned (.pointer (some ⟨b,o,none⟩))∧IntAt w' b o (n+sg neg m.natAbs)∧Touch w w' b o 2:=by
 obtain ⟨A,la,ca,hx0,hx1,hxv,hxl⟩:=hx.open_
 obtain ⟨B,lb,cb,hy0,hy1,hyv,hyl⟩:=hy.open_
 have hla:la≤4294967296:=by have:=hxv.len.1; unfold Okn at hn; omega
 have hlb:lb≤4294967296:=by have:=hyv.len.1; unfold Okn at hm; omega
 have HX0:=Lib.hid hx0
 have HX1:=Lib.hid hx1
 have HXV:=Lib.hid hxv
 have HY0:=Lib.hid hy0
 have HY1:=Lib.hid hy1
 have HYV:=Lib.hid hyv
 have HZ:=Lib.hid hz
 clear hx hy hx0 hx1 hxv hy0 hy1 hyv hz hn hm
 by_cases hs:decide (n<0)=neg
 · have HF:Hid (sg neg (n.natAbs+m.natAbs)=n+sg neg m.natAbs):=by
    subst hs
    by_cases h:n<0
    · simp only [h,decide_true,sg,Hid]; simp; omega
    · simp only [h,decide_false,sg,Hid]; simp; omega
   have hbb:(decide (n<0)==neg)=true:=by rw [hs]; exact beq_self_eq_true neg
   have hc:=HX0.out
   clear hs
   go_enter Tryz.func329,Tryz.ntmps329
   go_wp2
   clear hc
   refine wp_region_acts 11 (fun w'=>Below w.heap.size w w') (fun w w'=>Below w.heap.size w w') (fun i w v=>match i with
     | 0=>v=.pointer (some ⟨b,o,none⟩)
     | 1=>v=.bool neg
     | 2=>v=.pointer (some ⟨c,p,none⟩)
     | 3=>v=.pointer (some ⟨c,p,none⟩)
     | 4=>v=.pointer (some ⟨c,p+1,none⟩)
     | 5=>v=.slice A la ca
     | 6=>v=.pointer (some ⟨d,q,none⟩)
     | 7=>v=.pointer (some ⟨d,q,none⟩)
     | 8=>v=.pointer (some ⟨d,q+1,none⟩)
     | 9=>v=.slice B lb cb
     | _=>∃ A' m' c' zs,v=.slice A' m' c'∧Words w (.slice A' m' c') zs∧val zs=val (dig n.natAbs)+val (dig m.natAbs)) (by kernel_rfl) (by kernel_rfl) (by kernel_rfl) ((Below.refl _ _).drew) (fun _ _=>Below.refl _ _) ?_ ⟨?_,?_,?_,?_,?_,?_,?_,?_,?_,?_,?_,trivial⟩ ?_
   · intro i w1 w2 v hC hC2 hE hV
     match i with
     | 0=>exact hV
     | 1=>exact hV
     | 2=>exact hV
     | 3=>exact hV
     | 4=>exact hV
     | 5=>exact hV
     | 6=>exact hV
     | 7=>exact hV
     | 8=>exact hV
     | 9=>exact hV
     | _+10=>obtain ⟨A',m',c',zs,e,h,hz⟩:=hV; exact ⟨A',m',c',zs,e,h.below hE,hz⟩
   · intro a' w' hag hC hd K hK
     have e0:a'.tmps.getD 0 undef=.pointer (some ⟨b,o,none⟩):=hag 0 rfl
     go_step
     exact hK _ _ hC (Below.refl _ _) rfl
   · intro a' w' hag hC hd K hK
     have e3:a'.tmps.getD 3 undef=.bool neg:=hag 3 rfl
     go_step
     exact hK _ _ hC (Below.refl _ _) rfl
   · intro a' w' hag hC hd K hK
     have e1:a'.tmps.getD 1 undef=.pointer (some ⟨c,p,none⟩):=hag 1 rfl
     go_step
     exact hK _ _ hC (Below.refl _ _) rfl
   · intro a' w' hag hC hd K hK
     have e18:a'.tmps.getD 18 undef=.pointer (some ⟨c,p,none⟩):=hd.1
     go_step
     exact hK _ _ hC (Below.refl _ _) rfl
   · intro a' w' hag hC hd K hK
     have e19:a'.tmps.getD 19 undef=.pointer (some ⟨c,p,none⟩):=hd.1
     go_step
     exact hK _ _ hC (Below.refl _ _) rfl
   · intro a' w' hag hC hd K hK
     have e20:a'.tmps.getD 20 undef=.pointer (some ⟨c,p+1,none⟩):=hd.1
     have hcell:w'.cell? ⟨c,p+1,none⟩=some (.slice A la ca):=by rw [hC.cell (p:=⟨c,p+1,none⟩) hxl]; exact HX1.out
     have HC:=Lib.hid hC
     clear hC
     go_step
     exact hK _ _ HC.out (Below.refl _ _) rfl
   · intro a' w' hag hC hd K hK
     have e2:a'.tmps.getD 2 undef=.pointer (some ⟨d,q,none⟩):=hag 2 rfl
     go_step
     exact hK _ _ hC (Below.refl _ _) rfl
   · intro a' w' hag hC hd K hK
     have e22:a'.tmps.getD 22 undef=.pointer (some ⟨d,q,none⟩):=hd.1
     go_step
     exact hK _ _ hC (Below.refl _ _) rfl
   · intro a' w' hag hC hd K hK
     have e23:a'.tmps.getD 23 undef=.pointer (some ⟨d,q,none⟩):=hd.1
     go_step
     exact hK _ _ hC (Below.refl _ _) rfl
   · intro a' w' hag hC hd K hK
     have e24:a'.tmps.getD 24 undef=.pointer (some ⟨d,q+1,none⟩):=hd.1
     have hcell:w'.cell? ⟨d,q+1,none⟩=some (.slice B lb cb):=by rw [hC.cell (p:=⟨d,q+1,none⟩) hyl]; exact HY1.out
     have HC:=Lib.hid hC
     clear hC
     go_step
     exact hK _ _ HC.out (Below.refl _ _) rfl
   · intro a' w' hag hC hd K hK
     have e21:a'.tmps.getD 21 undef=.slice A la ca:=hd.1
     have e25:a'.tmps.getD 25 undef=.slice B lb cb:=hd.2.1
     go_step
     refine (more_any (HXV.out.below hC) (HYV.out.below hC) (by omega) (by omega)).mono ?_
     rintro e w2 ⟨v,zs,rfl,h1,h2,h3⟩
     obtain ⟨A',m',c',rfl⟩:=h1.form
     exact hK _ _ (hC.trans (h3.mono hC.size)) h3 ⟨_,_,_,_,rfl,h1,h2⟩
   · intro u w' hC hall
     obtain ⟨u0,u1,u2,u3,u4,u5,u6,u7,u8,u9,u10,_⟩:=hall
     have u0:u 0=.pointer (some ⟨b,o,none⟩):=u0
     have u1:u 1=.bool neg:=u1
     have u2:u 2=.pointer (some ⟨c,p,none⟩):=u2
     have u3:u 3=.pointer (some ⟨c,p,none⟩):=u3
     have u4:u 4=.pointer (some ⟨c,p+1,none⟩):=u4
     have u5:u 5=.slice A la ca:=u5
     have u6:u 6=.pointer (some ⟨d,q,none⟩):=u6
     have u7:u 7=.pointer (some ⟨d,q,none⟩):=u7
     have u8:u 8=.pointer (some ⟨d,q+1,none⟩):=u8
     have u9:u 9=.slice B lb cb:=u9
     obtain ⟨A',m',c',zs,eu10,hw',hzs⟩:=u10
     have u10:u 10=.slice A' m' c':=eu10
     simp only [fillR,List.take_succ_cons,List.take_zero,Act.put,List.setIfInBounds_toArray,List.set_cons_succ,List.set_cons_zero,Nat.zero_add,Nat.reduceAdd,u0,u1,u2,u3,u4,u5,u6,u7,u8,u9,u10]
     clear u0 u1 u2 u3 u4 u5 u6 u7 u8 u9 u10
     have HW:=Lib.hid hw'
     have HC:=Lib.hid hC
     have hsl:=HZ.out.on hC
     have HZS:=Lib.hid hzs
     clear hw' hC hzs
     go_wp2_with (go_at_call 342; refine (is_any _ hsl HW.out).mono ?_; rintro e w2 ⟨rfl,h1,h2⟩)
     go_ret
     refine ⟨rfl,?_,(Touch.of_below HC.out _ _ _).trans h2⟩
     rw [HZS.out,val_dig,val_dig] at h1
     rw [← HF.out]
     exact h1
 · have hbb:(decide (n<0)==neg)=false:=by rw [beq_eq_false_iff_ne]; exact hs
   have hc:=HX0.out
   have HS:=Lib.hid hs
   clear hs
   go_enter Tryz.func329,Tryz.ntmps329
   go_wp2
   clear hc hbb
   refine wp_region_acts 9 (fun w'=>Below w.heap.size w w') (fun w w'=>Below w.heap.size w w') (fun i w v=>match i with
     | 0=>v=.pointer (some ⟨c,p,none⟩)
     | 1=>v=.pointer (some ⟨c,p,none⟩)
     | 2=>v=.pointer (some ⟨c,p+1,none⟩)
     | 3=>v=.slice A la ca
     | 4=>v=.pointer (some ⟨d,q,none⟩)
     | 5=>v=.pointer (some ⟨d,q,none⟩)
     | 6=>v=.pointer (some ⟨d,q+1,none⟩)
     | 7=>v=.slice B lb cb
     | _=>v=.int .i64 (cmpN n.natAbs m.natAbs)) (by kernel_rfl) (by kernel_rfl) (by kernel_rfl) ((Below.refl _ _).drew) (fun _ _=>Below.refl _ _) ?_ ⟨?_,?_,?_,?_,?_,?_,?_,?_,?_,trivial⟩ ?_
   · intro i w1 w2 v hC hC2 hE hV
     match i with
     | 0=>exact hV
     | 1=>exact hV
     | 2=>exact hV
     | 3=>exact hV
     | 4=>exact hV
     | 5=>exact hV
     | 6=>exact hV
     | 7=>exact hV
     | _+8=>exact hV
   · intro a' w' hag hC hd K hK
     have e1:a'.tmps.getD 1 undef=.pointer (some ⟨c,p,none⟩):=hag 1 rfl
     go_step
     exact hK _ _ hC (Below.refl _ _) rfl
   · intro a' w' hag hC hd K hK
     have e29:a'.tmps.getD 29 undef=.pointer (some ⟨c,p,none⟩):=hd.1
     go_step
     exact hK _ _ hC (Below.refl _ _) rfl
   · intro a' w' hag hC hd K hK
     have e30:a'.tmps.getD 30 undef=.pointer (some ⟨c,p,none⟩):=hd.1
     go_step
     exact hK _ _ hC (Below.refl _ _) rfl
   · intro a' w' hag hC hd K hK
     have e31:a'.tmps.getD 31 undef=.pointer (some ⟨c,p+1,none⟩):=hd.1
     have hcell:w'.cell? ⟨c,p+1,none⟩=some (.slice A la ca):=by rw [hC.cell (p:=⟨c,p+1,none⟩) hxl]; exact HX1.out
     have HC:=Lib.hid hC
     clear hC
     go_step
     exact hK _ _ HC.out (Below.refl _ _) rfl
   · intro a' w' hag hC hd K hK
     have e2:a'.tmps.getD 2 undef=.pointer (some ⟨d,q,none⟩):=hag 2 rfl
     go_step
     exact hK _ _ hC (Below.refl _ _) rfl
   · intro a' w' hag hC hd K hK
     have e33:a'.tmps.getD 33 undef=.pointer (some ⟨d,q,none⟩):=hd.1
     go_step
     exact hK _ _ hC (Below.refl _ _) rfl
   · intro a' w' hag hC hd K hK
     have e34:a'.tmps.getD 34 undef=.pointer (some ⟨d,q,none⟩):=hd.1
     go_step
     exact hK _ _ hC (Below.refl _ _) rfl
   · intro a' w' hag hC hd K hK
     have e35:a'.tmps.getD 35 undef=.pointer (some ⟨d,q+1,none⟩):=hd.1
     have hcell:w'.cell? ⟨d,q+1,none⟩=some (.slice B lb cb):=by rw [hC.cell (p:=⟨d,q+1,none⟩) hyl]; exact HY1.out
     have HC:=Lib.hid hC
     clear hC
     go_step
     exact hK _ _ HC.out (Below.refl _ _) rfl
   · intro a' w' hag hC hd K hK
     have e32:a'.tmps.getD 32 undef=.slice A la ca:=hd.1
     have e36:a'.tmps.getD 36 undef=.slice B lb cb:=hd.2.1
     go_step
     refine (under_any (HXV.out.below hC) (HYV.out.below hC)).mono ?_
     rintro e w2 ⟨rfl,h1⟩
     exact hK _ _ (hC.trans (h1.below _)) (h1.below _) rfl
   · intro u w' hC hall
     obtain ⟨u0,u1,u2,u3,u4,u5,u6,u7,u8,_⟩:=hall
     have u0:u 0=.pointer (some ⟨c,p,none⟩):=u0
     have u1:u 1=.pointer (some ⟨c,p,none⟩):=u1
     have u2:u 2=.pointer (some ⟨c,p+1,none⟩):=u2
     have u3:u 3=.slice A la ca:=u3
     have u4:u 4=.pointer (some ⟨d,q,none⟩):=u4
     have u5:u 5=.pointer (some ⟨d,q,none⟩):=u5
     have u6:u 6=.pointer (some ⟨d,q+1,none⟩):=u6
     have u7:u 7=.slice B lb cb:=u7
     have u8:u 8=.int .i64 (cmpN n.natAbs m.natAbs):=u8
     simp only [fillR,List.take_succ_cons,List.take_zero,Act.put,List.setIfInBounds_toArray,List.set_cons_succ,List.set_cons_zero,Nat.zero_add,Nat.reduceAdd,u0,u1,u2,u3,u4,u5,u6,u7,u8]
     clear u0 u1 u2 u3 u4 u5 u6 u7 u8
     have HB3:=Lib.hid hC
     have HX0:=Lib.hid ((hC.cell (p:=⟨c,p,none⟩) hxl).trans HX0.out)
     have HX1:=Lib.hid ((hC.cell (p:=⟨c,p+1,none⟩) hxl).trans HX1.out)
     have HY1:=Lib.hid ((hC.cell (p:=⟨d,q+1,none⟩) hyl).trans HY1.out)
     have HXV:=Lib.hid (HXV.out.below hC)
     have HYV:=Lib.hid (HYV.out.below hC)
     have HZ:=Lib.hid (HZ.out.on hC)
     have hxl:=Nat.lt_of_lt_of_le hxl hC.size
     have hyl:=Nat.lt_of_lt_of_le hyl hC.size
     obtain ⟨w3,rfl⟩:∃ w3,w3=w':=⟨_,rfl⟩
     clear hC
     rcases Nat.lt_or_ge n.natAbs m.natAbs with hlt | hge
     · have hd:=cmpN_lss hlt
       have HF:Hid (sg neg (m.natAbs-n.natAbs)=n+sg neg m.natAbs):=by
        have hs:=HS.out
        cases neg<;>simp at hs<;>simp only [sg,Hid]<;>simp<;>omega
       have hLE:Hid (val (dig n.natAbs)≤val (dig m.natAbs)):=by rw [val_dig,val_dig]; exact Nat.le_of_lt hlt
       have hLL:la≤lb:=by rw [HXV.out.len.1,HYV.out.len.1]; exact dig_len_mono _ _ (Nat.le_of_lt hlt)
       clear hlt
       go_wp2
       clear hd
       refine wp_region_acts 11 (fun w'=>Below w3.heap.size w3 w') (fun w w'=>Below w.heap.size w w') (fun i w v=>match i with
         | 0=>v=.pointer (some ⟨b,o,none⟩)
         | 1=>v=.bool neg
         | 2=>v=.pointer (some ⟨d,q,none⟩)
         | 3=>v=.pointer (some ⟨d,q,none⟩)
         | 4=>v=.pointer (some ⟨d,q+1,none⟩)
         | 5=>v=.slice B lb cb
         | 6=>v=.pointer (some ⟨c,p,none⟩)
         | 7=>v=.pointer (some ⟨c,p,none⟩)
         | 8=>v=.pointer (some ⟨c,p+1,none⟩)
         | 9=>v=.slice A la ca
         | _=>∃ A' m' c' zs,v=.slice A' m' c'∧Words w (.slice A' m' c') zs∧val zs=val (dig m.natAbs)-val (dig n.natAbs)) (by kernel_rfl) (by kernel_rfl) (by kernel_rfl) ((Below.refl _ _).drew) (fun _ _=>Below.refl _ _) ?_ ⟨?_,?_,?_,?_,?_,?_,?_,?_,?_,?_,?_,trivial⟩ ?_
       · intro i w1 w2 v hC hC2 hE hV
         match i with
         | 0=>exact hV
         | 1=>exact hV
         | 2=>exact hV
         | 3=>exact hV
         | 4=>exact hV
         | 5=>exact hV
         | 6=>exact hV
         | 7=>exact hV
         | 8=>exact hV
         | 9=>exact hV
         | _+10=>obtain ⟨A',m',c',zs,e,h,hz⟩:=hV; exact ⟨A',m',c',zs,e,h.below hE,hz⟩
       · intro a' w' hag hC hd K hK
         have e0:a'.tmps.getD 0 undef=.pointer (some ⟨b,o,none⟩):=hag 0 rfl
         go_step
         exact hK _ _ hC (Below.refl _ _) rfl
       · intro a' w' hag hC hd K hK
         have e3:a'.tmps.getD 3 undef=.bool neg:=hag 3 rfl
         go_step
         exact hK _ _ hC (Below.refl _ _) rfl
       · intro a' w' hag hC hd K hK
         have e2:a'.tmps.getD 2 undef=.pointer (some ⟨d,q,none⟩):=hag 2 rfl
         go_step
         exact hK _ _ hC (Below.refl _ _) rfl
       · intro a' w' hag hC hd K hK
         have e56:a'.tmps.getD 56 undef=.pointer (some ⟨d,q,none⟩):=hd.1
         go_step
         exact hK _ _ hC (Below.refl _ _) rfl
       · intro a' w' hag hC hd K hK
         have e57:a'.tmps.getD 57 undef=.pointer (some ⟨d,q,none⟩):=hd.1
         go_step
         exact hK _ _ hC (Below.refl _ _) rfl
       · intro a' w' hag hC hd K hK
         have e58:a'.tmps.getD 58 undef=.pointer (some ⟨d,q+1,none⟩):=hd.1
         have hcell:w'.cell? ⟨d,q+1,none⟩=some (.slice B lb cb):=by rw [hC.cell (p:=⟨d,q+1,none⟩) hyl]; exact HY1.out
         have HC:=Lib.hid hC
         clear hC
         go_step
         exact hK _ _ HC.out (Below.refl _ _) rfl
       · intro a' w' hag hC hd K hK
         have e1:a'.tmps.getD 1 undef=.pointer (some ⟨c,p,none⟩):=hag 1 rfl
         go_step
         exact hK _ _ hC (Below.refl _ _) rfl
       · intro a' w' hag hC hd K hK
         have e60:a'.tmps.getD 60 undef=.pointer (some ⟨c,p,none⟩):=hd.1
         go_step
         exact hK _ _ hC (Below.refl _ _) rfl
       · intro a' w' hag hC hd K hK
         have e61:a'.tmps.getD 61 undef=.pointer (some ⟨c,p,none⟩):=hd.1
         go_step
         exact hK _ _ hC (Below.refl _ _) rfl
       · intro a' w' hag hC hd K hK
         have e62:a'.tmps.getD 62 undef=.pointer (some ⟨c,p+1,none⟩):=hd.1
         have hcell:w'.cell? ⟨c,p+1,none⟩=some (.slice A la ca):=by rw [hC.cell (p:=⟨c,p+1,none⟩) hxl]; exact HX1.out
         have HC:=Lib.hid hC
         clear hC
         go_step
         exact hK _ _ HC.out (Below.refl _ _) rfl
       · intro a' w' hag hC hd K hK
         have e59:a'.tmps.getD 59 undef=.slice B lb cb:=hd.1
         have e63:a'.tmps.getD 63 undef=.slice A la ca:=hd.2.1
         go_step
         refine (less_any (HYV.out.below hC) (HXV.out.below hC) (by omega) hLE.out hLL).mono ?_
         rintro e w2 ⟨v,zs,rfl,h1,h2,h3⟩
         obtain ⟨A',m',c',rfl⟩:=h1.form
         exact hK _ _ (hC.trans (h3.mono hC.size)) h3 ⟨_,_,_,_,rfl,h1,h2⟩
       · intro u w' hC hall
         obtain ⟨u0,u1,u2,u3,u4,u5,u6,u7,u8,u9,u10,_⟩:=hall
         have u0:u 0=.pointer (some ⟨b,o,none⟩):=u0
         have u1:u 1=.bool neg:=u1
         have u2:u 2=.pointer (some ⟨d,q,none⟩):=u2
         have u3:u 3=.pointer (some ⟨d,q,none⟩):=u3
         have u4:u 4=.pointer (some ⟨d,q+1,none⟩):=u4
         have u5:u 5=.slice B lb cb:=u5
         have u6:u 6=.pointer (some ⟨c,p,none⟩):=u6
         have u7:u 7=.pointer (some ⟨c,p,none⟩):=u7
         have u8:u 8=.pointer (some ⟨c,p+1,none⟩):=u8
         have u9:u 9=.slice A la ca:=u9
         obtain ⟨A',m',c',zs,eu10,hw',hzs⟩:=u10
         have u10:u 10=.slice A' m' c':=eu10
         simp only [fillR,List.take_succ_cons,List.take_zero,Act.put,List.setIfInBounds_toArray,List.set_cons_succ,List.set_cons_zero,Nat.zero_add,Nat.reduceAdd,u0,u1,u2,u3,u4,u5,u6,u7,u8,u9,u10]
         clear u0 u1 u2 u3 u4 u5 u6 u7 u8 u9 u10
         have HW:=Lib.hid hw'
         have HC:=Lib.hid hC
         have hsl:=HZ.out.on hC
         have HZS:=Lib.hid hzs
         clear hw' hC hzs
         go_wp2_with (go_at_call 342; refine (is_any _ hsl HW.out).mono ?_; rintro e w2 ⟨rfl,h1,h2⟩)
         go_ret
         refine ⟨rfl,?_,(Touch.of_below (HB3.out.trans (HC.out.mono HB3.out.size)) _ _ _).trans h2⟩
         rw [HZS.out,val_dig,val_dig] at h1
         rw [← HF.out]
         exact h1
     · have hd:=cmpN_geq hge
       have HF:Hid (sg (decide (n<0)) (n.natAbs-m.natAbs)=n+sg neg m.natAbs):=by
        have hs:=HS.out
        cases neg<;>simp at hs<;>simp only [sg,Hid]<;>simp [hs]<;>omega
       have hLE:Hid (val (dig m.natAbs)≤val (dig n.natAbs)):=by rw [val_dig,val_dig]; exact hge
       have hLL:lb≤la:=by rw [HXV.out.len.1,HYV.out.len.1]; exact dig_len_mono _ _ hge
       clear hge
       go_wp2
       clear hd
       refine wp_region_acts 14 (fun w'=>Below w3.heap.size w3 w') (fun w w'=>Below w.heap.size w w') (fun i w v=>match i with
         | 0=>v=.pointer (some ⟨b,o,none⟩)
         | 1=>v=.pointer (some ⟨c,p,none⟩)
         | 2=>v=.pointer (some ⟨c,p,none⟩)
         | 3=>v=.pointer (some ⟨c,p,none⟩)
         | 4=>v=.bool (decide (n<0))
         | 5=>v=.pointer (some ⟨c,p,none⟩)
         | 6=>v=.pointer (some ⟨c,p,none⟩)
         | 7=>v=.pointer (some ⟨c,p+1,none⟩)
         | 8=>v=.slice A la ca
         | 9=>v=.pointer (some ⟨d,q,none⟩)
         | 10=>v=.pointer (some ⟨d,q,none⟩)
         | 11=>v=.pointer (some ⟨d,q+1,none⟩)
         | 12=>v=.slice B lb cb
         | _=>∃ A' m' c' zs,v=.slice A' m' c'∧Words w (.slice A' m' c') zs∧val zs=val (dig n.natAbs)-val (dig m.natAbs)) (by kernel_rfl) (by kernel_rfl) (by kernel_rfl) ((Below.refl _ _).drew) (fun _ _=>Below.refl _ _) ?_ ⟨?_,?_,?_,?_,?_,?_,?_,?_,?_,?_,?_,?_,?_,?_,trivial⟩ ?_
       · intro i w1 w2 v hC hC2 hE hV
         match i with
         | 0=>exact hV
         | 1=>exact hV
         | 2=>exact hV
         | 3=>exact hV
         | 4=>exact hV
         | 5=>exact hV
         | 6=>exact hV
         | 7=>exact hV
         | 8=>exact hV
         | 9=>exact hV
         | 10=>exact hV
         | 11=>exact hV
         | 12=>exact hV
         | _+13=>obtain ⟨A',m',c',zs,e,h,hz⟩:=hV; exact ⟨A',m',c',zs,e,h.below hE,hz⟩
       · intro a' w' hag hC hd K hK
         have e0:a'.tmps.getD 0 undef=.pointer (some ⟨b,o,none⟩):=hag 0 rfl
         go_step
         exact hK _ _ hC (Below.refl _ _) rfl
       · intro a' w' hag hC hd K hK
         have e1:a'.tmps.getD 1 undef=.pointer (some ⟨c,p,none⟩):=hag 1 rfl
         go_step
         exact hK _ _ hC (Below.refl _ _) rfl
       · intro a' w' hag hC hd K hK
         have e40:a'.tmps.getD 40 undef=.pointer (some ⟨c,p,none⟩):=hd.1
         go_step
         exact hK _ _ hC (Below.refl _ _) rfl
       · intro a' w' hag hC hd K hK
         have e41:a'.tmps.getD 41 undef=.pointer (some ⟨c,p,none⟩):=hd.1
         go_step
         exact hK _ _ hC (Below.refl _ _) rfl
       · intro a' w' hag hC hd K hK
         have e42:a'.tmps.getD 42 undef=.pointer (some ⟨c,p,none⟩):=hd.1
         have hcell:w'.cell? ⟨c,p,none⟩=some (.bool (decide (n<0))):=by rw [hC.cell (p:=⟨c,p,none⟩) hxl]; exact HX0.out
         have HC:=Lib.hid hC
         clear hC
         go_step
         exact hK _ _ HC.out (Below.refl _ _) rfl
       · intro a' w' hag hC hd K hK
         have e1:a'.tmps.getD 1 undef=.pointer (some ⟨c,p,none⟩):=hag 1 rfl
         go_step
         exact hK _ _ hC (Below.refl _ _) rfl
       · intro a' w' hag hC hd K hK
         have e44:a'.tmps.getD 44 undef=.pointer (some ⟨c,p,none⟩):=hd.1
         go_step
         exact hK _ _ hC (Below.refl _ _) rfl
       · intro a' w' hag hC hd K hK
         have e45:a'.tmps.getD 45 undef=.pointer (some ⟨c,p,none⟩):=hd.1
         go_step
         exact hK _ _ hC (Below.refl _ _) rfl
       · intro a' w' hag hC hd K hK
         have e46:a'.tmps.getD 46 undef=.pointer (some ⟨c,p+1,none⟩):=hd.1
         have hcell:w'.cell? ⟨c,p+1,none⟩=some (.slice A la ca):=by rw [hC.cell (p:=⟨c,p+1,none⟩) hxl]; exact HX1.out
         have HC:=Lib.hid hC
         clear hC
         go_step
         exact hK _ _ HC.out (Below.refl _ _) rfl
       · intro a' w' hag hC hd K hK
         have e2:a'.tmps.getD 2 undef=.pointer (some ⟨d,q,none⟩):=hag 2 rfl
         go_step
         exact hK _ _ hC (Below.refl _ _) rfl
       · intro a' w' hag hC hd K hK
         have e48:a'.tmps.getD 48 undef=.pointer (some ⟨d,q,none⟩):=hd.1
         go_step
         exact hK _ _ hC (Below.refl _ _) rfl
       · intro a' w' hag hC hd K hK
         have e49:a'.tmps.getD 49 undef=.pointer (some ⟨d,q,none⟩):=hd.1
         go_step
         exact hK _ _ hC (Below.refl _ _) rfl
       · intro a' w' hag hC hd K hK
         have e50:a'.tmps.getD 50 undef=.pointer (some ⟨d,q+1,none⟩):=hd.1
         have hcell:w'.cell? ⟨d,q+1,none⟩=some (.slice B lb cb):=by rw [hC.cell (p:=⟨d,q+1,none⟩) hyl]; exact HY1.out
         have HC:=Lib.hid hC
         clear hC
         go_step
         exact hK _ _ HC.out (Below.refl _ _) rfl
       · intro a' w' hag hC hd K hK
         have e47:a'.tmps.getD 47 undef=.slice A la ca:=hd.1
         have e51:a'.tmps.getD 51 undef=.slice B lb cb:=hd.2.1
         go_step
         refine (less_any (HXV.out.below hC) (HYV.out.below hC) (by omega) hLE.out hLL).mono ?_
         rintro e w2 ⟨v,zs,rfl,h1,h2,h3⟩
         obtain ⟨A',m',c',rfl⟩:=h1.form
         exact hK _ _ (hC.trans (h3.mono hC.size)) h3 ⟨_,_,_,_,rfl,h1,h2⟩
       · intro u w' hC hall
         obtain ⟨u0,u1,u2,u3,u4,u5,u6,u7,u8,u9,u10,u11,u12,u13,_⟩:=hall
         have u0:u 0=.pointer (some ⟨b,o,none⟩):=u0
         have u1:u 1=.pointer (some ⟨c,p,none⟩):=u1
         have u2:u 2=.pointer (some ⟨c,p,none⟩):=u2
         have u3:u 3=.pointer (some ⟨c,p,none⟩):=u3
         have u4:u 4=.bool (decide (n<0)):=u4
         have u5:u 5=.pointer (some ⟨c,p,none⟩):=u5
         have u6:u 6=.pointer (some ⟨c,p,none⟩):=u6
         have u7:u 7=.pointer (some ⟨c,p+1,none⟩):=u7
         have u8:u 8=.slice A la ca:=u8
         have u9:u 9=.pointer (some ⟨d,q,none⟩):=u9
         have u10:u 10=.pointer (some ⟨d,q,none⟩):=u10
         have u11:u 11=.pointer (some ⟨d,q+1,none⟩):=u11
         have u12:u 12=.slice B lb cb:=u12
         obtain ⟨A',m',c',zs,eu13,hw',hzs⟩:=u13
         have u13:u 13=.slice A' m' c':=eu13
         simp only [fillR,List.take_succ_cons,List.take_zero,Act.put,List.setIfInBounds_toArray,List.set_cons_succ,List.set_cons_zero,Nat.zero_add,Nat.reduceAdd,u0,u1,u2,u3,u4,u5,u6,u7,u8,u9,u10,u11,u12,u13]
         clear u0 u1 u2 u3 u4 u5 u6 u7 u8 u9 u10 u11 u12 u13
         have HW:=Lib.hid hw'
         have HC:=Lib.hid hC
         have hsl:=HZ.out.on hC
         have HZS:=Lib.hid hzs
         clear hw' hC hzs
         go_wp2_with (go_at_call 342; refine (is_any _ hsl HW.out).mono ?_; rintro e w2 ⟨rfl,h1,h2⟩)
         go_ret
         refine ⟨rfl,?_,(Touch.of_below (HB3.out.trans (HC.out.mono HB3.out.size)) _ _ _).trans h2⟩
         rw [HZS.out,val_dig,val_dig] at h1
         rw [← HF.out]
         exact h1
theorem sg_not (m:Int):sg (!decide (m<0)) m.natAbs = -m:=by
 by_cases h:m<0
 · simp [sg,h]; omega
 · simp [sg,h]; omega
theorem Add_any {w:World} {b o c p d q:Nat} {n m:Int} (hz:Slot w b o 2) (hx:IntAt w c p n) (hy:IntAt w d q m) (hn:Okn n) (hm:Okn m) :
  Calls Tryz.prog 286 #[.pointer (some ⟨b,o,none⟩),.pointer (some ⟨c,p,none⟩),.pointer (some ⟨d,q,none⟩)] w fun e w'=>e=.returned (.pointer (some ⟨b,o,none⟩))∧IntAt w' b o (n+m)∧Touch w w' b o 2:=by
 have hc:=hy.2.1
 have H:=Lib.hid (add_any (decide (m<0)) hz hx hy hn hm)
 clear hx hy hz hn hm
 go_enter Tryz.func286,Tryz.ntmps286
 go_wp2_with (go_at_call 329; refine H.out.mono ?_; rintro e w1 ⟨rfl,h1,h2⟩)
 go_ret
 rw [sg_of] at h1
 exact ⟨rfl,h1,h2⟩
theorem Sub_any {w:World} {b o c p d q:Nat} {n m:Int} (hz:Slot w b o 2) (hx:IntAt w c p n) (hy:IntAt w d q m) (hn:Okn n) (hm:Okn m) :
  Calls Tryz.prog 246 #[.pointer (some ⟨b,o,none⟩),.pointer (some ⟨c,p,none⟩),.pointer (some ⟨d,q,none⟩)] w fun e w'=>e=.returned (.pointer (some ⟨b,o,none⟩))∧IntAt w' b o (n-m)∧Touch w w' b o 2:=by
 have hc:=hy.2.1
 have H:=Lib.hid (add_any (!decide (m<0)) hz hx hy hn hm)
 clear hx hy hz hn hm
 obtain ⟨s,hs⟩:∃ s,s=decide (m<0):=⟨_,rfl⟩
 rw [← hs] at hc H
 have HS:=Lib.hid hs
 clear hs
 go_enter Tryz.func246,Tryz.ntmps246
 go_wp2_with (go_at_call 329; refine H.out.mono ?_; rintro e w1 ⟨rfl,h1,h2⟩)
 go_ret
 rw [HS.out,sg_not] at h1
 exact ⟨rfl,h1,h2⟩
def cmpI (n m:Int):Int:=if n<m then -1 else if m<n then 1 else 0
theorem cmpI_neg {n m:Int} (h:n<0) (k:m<0):cmpN m.natAbs n.natAbs=cmpI n m:=by
 unfold cmpN cmpI
 by_cases h1:n<m
 · rw [if_pos h1,if_pos (by omega)]
 · rw [if_neg h1,if_neg (by omega)]
   by_cases h2:m<n
   · rw [if_pos h2,if_pos (by omega)]
   · rw [if_neg h2,if_neg (by omega)]
theorem cmpI_pos {n m:Int} (h:¬ n<0) (k:¬ m<0):cmpN n.natAbs m.natAbs=cmpI n m:=by
 unfold cmpN cmpI
 by_cases h1:n<m
 · rw [if_pos h1,if_pos (by omega)]
 · rw [if_neg h1,if_neg (by omega)]
   by_cases h2:m<n
   · rw [if_pos h2,if_pos (by omega)]
   · rw [if_neg h2,if_neg (by omega)]
theorem Cmp_any {w:World} {c p d q:Nat} {n m:Int} (hx:IntAt w c p n) (hy:IntAt w d q m) :
  Calls Tryz.prog 315 #[.pointer (some ⟨c,p,none⟩),.pointer (some ⟨d,q,none⟩)] w fun e w'=>e=.returned (.int .i64 (cmpI n m))∧Below w.heap.size w w':=by
 obtain ⟨A,la,ca,hx0,hx1,hxv,hxl⟩:=hx.open_
 obtain ⟨B,lb,cb,hy0,hy1,hyv,hyl⟩:=hy.open_
 have HX1:=Lib.hid hx1
 have HXV:=Lib.hid hxv
 have HY1:=Lib.hid hy1
 have HYV:=Lib.hid hyv
 clear hx hy hx1 hxv hy1 hyv
 by_cases h:n<0<;>by_cases k:m<0
 · have HF:=Lib.hid (cmpI_neg h k)
   rw [decide_eq_true h] at hx0
   rw [decide_eq_true k] at hy0
   clear h k
   go_enter Tryz.func315,Tryz.ntmps315
   go_wp2
   clear hx0 hy0
   refine wp_region_acts 9 (fun w'=>Below w.heap.size w w') (fun w w'=>Below w.heap.size w w') (fun i w v=>match i with
     | 0=>v=.pointer (some ⟨d,q,none⟩)
     | 1=>v=.pointer (some ⟨d,q,none⟩)
     | 2=>v=.pointer (some ⟨d,q+1,none⟩)
     | 3=>v=.slice B lb cb
     | 4=>v=.pointer (some ⟨c,p,none⟩)
     | 5=>v=.pointer (some ⟨c,p,none⟩)
     | 6=>v=.pointer (some ⟨c,p+1,none⟩)
     | 7=>v=.slice A la ca
     | _=>v=.int .i64 (cmpN m.natAbs n.natAbs)) (by kernel_rfl) (by kernel_rfl) (by kernel_rfl) ((Below.refl _ _).drew) (fun _ _=>Below.refl _ _) ?_ ⟨?_,?_,?_,?_,?_,?_,?_,?_,?_,trivial⟩ ?_
   · intro i w1 w2 v hC hC2 hE hV
     match i with
     | 0=>exact hV
     | 1=>exact hV
     | 2=>exact hV
     | 3=>exact hV
     | 4=>exact hV
     | 5=>exact hV
     | 6=>exact hV
     | 7=>exact hV
     | _+8=>exact hV
   · intro a' w' hag hC hd K hK
     have e1:a'.tmps.getD 1 undef=.pointer (some ⟨d,q,none⟩):=hag 1 rfl
     go_step
     exact hK _ _ hC (Below.refl _ _) rfl
   · intro a' w' hag hC hd K hK
     have e16:a'.tmps.getD 16 undef=.pointer (some ⟨d,q,none⟩):=hd.1
     go_step
     exact hK _ _ hC (Below.refl _ _) rfl
   · intro a' w' hag hC hd K hK
     have e17:a'.tmps.getD 17 undef=.pointer (some ⟨d,q,none⟩):=hd.1
     go_step
     exact hK _ _ hC (Below.refl _ _) rfl
   · intro a' w' hag hC hd K hK
     have e18:a'.tmps.getD 18 undef=.pointer (some ⟨d,q+1,none⟩):=hd.1
     have hcell:w'.cell? ⟨d,q+1,none⟩=some (.slice B lb cb):=by rw [hC.cell (p:=⟨d,q+1,none⟩) hyl]; exact HY1.out
     have HC:=Lib.hid hC
     clear hC
     go_step
     exact hK _ _ HC.out (Below.refl _ _) rfl
   · intro a' w' hag hC hd K hK
     have e0:a'.tmps.getD 0 undef=.pointer (some ⟨c,p,none⟩):=hag 0 rfl
     go_step
     exact hK _ _ hC (Below.refl _ _) rfl
   · intro a' w' hag hC hd K hK
     have e20:a'.tmps.getD 20 undef=.pointer (some ⟨c,p,none⟩):=hd.1
     go_step
     exact hK _ _ hC (Below.refl _ _) rfl
   · intro a' w' hag hC hd K hK
     have e21:a'.tmps.getD 21 undef=.pointer (some ⟨c,p,none⟩):=hd.1
     go_step
     exact hK _ _ hC (Below.refl _ _) rfl
   · intro a' w' hag hC hd K hK
     have e22:a'.tmps.getD 22 undef=.pointer (some ⟨c,p+1,none⟩):=hd.1
     have hcell:w'.cell? ⟨c,p+1,none⟩=some (.slice A la ca):=by rw [hC.cell (p:=⟨c,p+1,none⟩) hxl]; exact HX1.out
     have HC:=Lib.hid hC
     clear hC
     go_step
     exact hK _ _ HC.out (Below.refl _ _) rfl
   · intro a' w' hag hC hd K hK
     have e19:a'.tmps.getD 19 undef=.slice B lb cb:=hd.1
     have e23:a'.tmps.getD 23 undef=.slice A la ca:=hd.2.1
     go_step
     refine (under_any (HYV.out.below hC) (HXV.out.below hC)).mono ?_
     rintro e w2 ⟨rfl,h1⟩
     exact hK _ _ (hC.trans (h1.below _)) (h1.below _) rfl
   · intro u w' hC hall
     obtain ⟨u0,u1,u2,u3,u4,u5,u6,u7,u8,_⟩:=hall
     have u0:u 0=.pointer (some ⟨d,q,none⟩):=u0
     have u1:u 1=.pointer (some ⟨d,q,none⟩):=u1
     have u2:u 2=.pointer (some ⟨d,q+1,none⟩):=u2
     have u3:u 3=.slice B lb cb:=u3
     have u4:u 4=.pointer (some ⟨c,p,none⟩):=u4
     have u5:u 5=.pointer (some ⟨c,p,none⟩):=u5
     have u6:u 6=.pointer (some ⟨c,p+1,none⟩):=u6
     have u7:u 7=.slice A la ca:=u7
     have u8:u 8=.int .i64 (cmpN m.natAbs n.natAbs):=u8
     simp only [fillR,List.take_succ_cons,List.take_zero,Act.put,List.setIfInBounds_toArray,List.set_cons_succ,List.set_cons_zero,Nat.zero_add,Nat.reduceAdd,u0,u1,u2,u3,u4,u5,u6,u7,u8]
     clear u0 u1 u2 u3 u4 u5 u6 u7 u8
     have HC:=Lib.hid hC
     clear hC
     go_wp2
     go_ret
     exact ⟨by rw [← HF.out]; rfl,HC.out⟩
 · have hf:cmpI n m = -1:=if_pos (by omega)
   rw [hf]
   rw [decide_eq_true h] at hx0
   rw [decide_eq_false k] at hy0
   clear h k hf
   go_enter Tryz.func315,Tryz.ntmps315
   go_wp2
   go_ret
   exact ⟨rfl,Below.refl _ _⟩
 · have hf:cmpI n m=1:=by rw [cmpI,if_neg (by omega),if_pos (by omega)]
   rw [hf]
   rw [decide_eq_false h] at hx0
   rw [decide_eq_true k] at hy0
   clear h k hf
   go_enter Tryz.func315,Tryz.ntmps315
   go_wp2
   go_ret
   exact ⟨rfl,Below.refl _ _⟩
 · have HF:=Lib.hid (cmpI_pos h k)
   rw [decide_eq_false h] at hx0
   rw [decide_eq_false k] at hy0
   clear h k
   go_enter Tryz.func315,Tryz.ntmps315
   go_wp2
   clear hx0 hy0
   refine wp_region_acts 9 (fun w'=>Below w.heap.size w w') (fun w w'=>Below w.heap.size w w') (fun i w v=>match i with
     | 0=>v=.pointer (some ⟨c,p,none⟩)
     | 1=>v=.pointer (some ⟨c,p,none⟩)
     | 2=>v=.pointer (some ⟨c,p+1,none⟩)
     | 3=>v=.slice A la ca
     | 4=>v=.pointer (some ⟨d,q,none⟩)
     | 5=>v=.pointer (some ⟨d,q,none⟩)
     | 6=>v=.pointer (some ⟨d,q+1,none⟩)
     | 7=>v=.slice B lb cb
     | _=>v=.int .i64 (cmpN n.natAbs m.natAbs)) (by kernel_rfl) (by kernel_rfl) (by kernel_rfl) ((Below.refl _ _).drew) (fun _ _=>Below.refl _ _) ?_ ⟨?_,?_,?_,?_,?_,?_,?_,?_,?_,trivial⟩ ?_
   · intro i w1 w2 v hC hC2 hE hV
     match i with
     | 0=>exact hV
     | 1=>exact hV
     | 2=>exact hV
     | 3=>exact hV
     | 4=>exact hV
     | 5=>exact hV
     | 6=>exact hV
     | 7=>exact hV
     | _+8=>exact hV
   · intro a' w' hag hC hd K hK
     have e0:a'.tmps.getD 0 undef=.pointer (some ⟨c,p,none⟩):=hag 0 rfl
     go_step
     exact hK _ _ hC (Below.refl _ _) rfl
   · intro a' w' hag hC hd K hK
     have e35:a'.tmps.getD 35 undef=.pointer (some ⟨c,p,none⟩):=hd.1
     go_step
     exact hK _ _ hC (Below.refl _ _) rfl
   · intro a' w' hag hC hd K hK
     have e36:a'.tmps.getD 36 undef=.pointer (some ⟨c,p,none⟩):=hd.1
     go_step
     exact hK _ _ hC (Below.refl _ _) rfl
   · intro a' w' hag hC hd K hK
     have e37:a'.tmps.getD 37 undef=.pointer (some ⟨c,p+1,none⟩):=hd.1
     have hcell:w'.cell? ⟨c,p+1,none⟩=some (.slice A la ca):=by rw [hC.cell (p:=⟨c,p+1,none⟩) hxl]; exact HX1.out
     have HC:=Lib.hid hC
     clear hC
     go_step
     exact hK _ _ HC.out (Below.refl _ _) rfl
   · intro a' w' hag hC hd K hK
     have e1:a'.tmps.getD 1 undef=.pointer (some ⟨d,q,none⟩):=hag 1 rfl
     go_step
     exact hK _ _ hC (Below.refl _ _) rfl
   · intro a' w' hag hC hd K hK
     have e39:a'.tmps.getD 39 undef=.pointer (some ⟨d,q,none⟩):=hd.1
     go_step
     exact hK _ _ hC (Below.refl _ _) rfl
   · intro a' w' hag hC hd K hK
     have e40:a'.tmps.getD 40 undef=.pointer (some ⟨d,q,none⟩):=hd.1
     go_step
     exact hK _ _ hC (Below.refl _ _) rfl
   · intro a' w' hag hC hd K hK
     have e41:a'.tmps.getD 41 undef=.pointer (some ⟨d,q+1,none⟩):=hd.1
     have hcell:w'.cell? ⟨d,q+1,none⟩=some (.slice B lb cb):=by rw [hC.cell (p:=⟨d,q+1,none⟩) hyl]; exact HY1.out
     have HC:=Lib.hid hC
     clear hC
     go_step
     exact hK _ _ HC.out (Below.refl _ _) rfl
   · intro a' w' hag hC hd K hK
     have e38:a'.tmps.getD 38 undef=.slice A la ca:=hd.1
     have e42:a'.tmps.getD 42 undef=.slice B lb cb:=hd.2.1
     go_step
     refine (under_any (HXV.out.below hC) (HYV.out.below hC)).mono ?_
     rintro e w2 ⟨rfl,h1⟩
     exact hK _ _ (hC.trans (h1.below _)) (h1.below _) rfl
   · intro u w' hC hall
     obtain ⟨u0,u1,u2,u3,u4,u5,u6,u7,u8,_⟩:=hall
     have u0:u 0=.pointer (some ⟨c,p,none⟩):=u0
     have u1:u 1=.pointer (some ⟨c,p,none⟩):=u1
     have u2:u 2=.pointer (some ⟨c,p+1,none⟩):=u2
     have u3:u 3=.slice A la ca:=u3
     have u4:u 4=.pointer (some ⟨d,q,none⟩):=u4
     have u5:u 5=.pointer (some ⟨d,q,none⟩):=u5
     have u6:u 6=.pointer (some ⟨d,q+1,none⟩):=u6
     have u7:u 7=.slice B lb cb:=u7
     have u8:u 8=.int .i64 (cmpN n.natAbs m.natAbs):=u8
     simp only [fillR,List.take_succ_cons,List.take_zero,Act.put,List.setIfInBounds_toArray,List.set_cons_succ,List.set_cons_zero,Nat.zero_add,Nat.reduceAdd,u0,u1,u2,u3,u4,u5,u6,u7,u8]
     clear u0 u1 u2 u3 u4 u5 u6 u7 u8
     have HC:=Lib.hid hC
     clear hC
     go_wp2
     go_ret
     exact ⟨by rw [← HF.out]; rfl,HC.out⟩
theorem wpList_append_copy {ops:Array Oper} {rest:List Oper} {o:Oper} {a:Act} {w:World} {Q:Exit→Act→World→Prop} (hg:o.guard=none) (s x:Operand)
  (ho:o.op=.call { callee:=.builtin .append,args:=#[s,x],argTypes:=#[209,209] }) (A:Option Addr) (n c:Nat) (xs:List Nat) (hs:a.eval s=.slice none 0 0) (hx:a.eval x=.slice A n c) (hw:Words w (.slice A n c) xs)
  (hK:∀ v' w',Words w' v' xs→Below w.heap.size w w'→wpList Tryz.prog ops Q rest (a.put o.dst v') w'):wpList Tryz.prog ops Q (o::rest) a w :=
 wpList_plain hg fun K hK'=>wp_append_copy s x ho hs hx hw fun v' w' h1 h2=>hK' _ _ (hK v' w' h1 h2)
set_option maxHeartbeats 400000 in
theorem gcd_any {w:World} {b o c p d q:Nat} {n m:Int} (hz:Slot w b o 2) (hx:IntAt w c p n) (hy:IntAt w d q m) (hn:Okn n) (hm:Okn m) :
  Calls Tryz.prog 319 #[.pointer (some ⟨b,o,none⟩),.pointer none,.pointer none,.pointer (some ⟨c,p,none⟩),.pointer (some ⟨d,q,none⟩)] w fun e w'=>e=.returned (.pointer (some ⟨b,o,none⟩))∧IntAt w' b o (Int.gcd n m:Int)∧Touch w w' b o 2:=by
 obtain ⟨A,la,ca,hx0,hx1,hxv,hxl⟩:=hx.open_
 obtain ⟨B,lb,cb,hy0,hy1,hyv,hyl⟩:=hy.open_
 have HXV:=Lib.hid hxv
 have HYV:=Lib.hid hyv
 have HZ:=Lib.hid hz
 have HN:=Lib.hid hn
 have HM:=Lib.hid hm
 clear hx hy hx0 hxv hy0 hyv hz hn hm
 go_enter Tryz.func319,Tryz.ntmps319
 go_wp2
 go_quiet (fail)
 clear hx1 hy1
 go_wp2
 go_loopg [11,12] (m.natAbs) (fun k x y wr=>∃ (A B:Option Addr) (la ca lb cb:Nat) (u v:Nat),x=.slice A la ca∧y=.slice B lb cb∧Hid (Words wr (.slice A la ca) (dig u))∧Hid (Words wr (.slice B lb cb) (dig v))∧Hid (Nat.gcd u v=Int.gcd n m)∧Hid (v≤k)∧Hid ((dig u).length≤4294967296)∧Hid ((dig v).length≤4294967296)∧Hid (Below w.heap.size w wr))
 case atStart=>exact ⟨A,B,la,ca,lb,cb,n.natAbs,m.natAbs,rfl,rfl,HXV.out.below (Below.drewN_ (Below.refl _ _) _),HYV.out.below (Below.drewN_ (Below.refl _ _) _),rfl,Nat.le_refl _,HN.out,HM.out,Below.drewN_ (Below.refl _ _) _⟩
 case round =>
  obtain ⟨A,B,la,ca,lb,cb,u,v,rfl,rfl,hu,hv,hg,hk,hul,hvl,hb⟩:=hrel
  have hl:=hv.out.len.1
  have hlb:=hv.out.2.1
  by_cases h0:0<lb
  · have hv0:0<v:=by
     rcases Nat.eq_zero_or_pos v with h | h
     · rw [h,dig_zero] at hl; simp at hl; omega
     · exact h
    have HV0:=Lib.hid hv0
    have hlb2:lb≤17179869184:=by omega
    clear hl hlb hv0
    go_wp2_with fail
    refine (divide_any hu.out hv.out HV0.out (by rw [hu.out.len.1]; exact hul.out)).mono ?_
    rintro e w1 ⟨v1,v2,rfl,h1,h2,h3⟩
    obtain ⟨A2,m2,c2,rfl⟩:=h2.form
    have H2:=Lib.hid h2
    have H3:=Lib.hid h3
    clear h1 h2 h3
    go_wp2
    go_roundg (u % v)
    case measure=>exact Nat.lt_of_lt_of_le (Nat.mod_lt _ HV0.out) hk.out
    case rel =>
     refine ⟨B,A2,lb,cb,m2,c2,v,u % v,rfl,rfl,hv.out.below H3.out,H2.out,?_,Nat.le_refl _,hvl.out,?_,hb.out.trans (H3.out.mono hb.out.size)⟩
     · rw [Hid,← hg.out,Nat.gcd_comm v,← Nat.gcd_rec,Nat.gcd_comm]
     · exact Nat.le_trans (dig_len_mono _ _ (Nat.le_of_lt (Nat.mod_lt _ HV0.out))) hvl.out
  · obtain rfl:lb=0:=by omega
    have hv0:=(dig_nil_iff v).1 (List.eq_nil_of_length_eq_zero hl.symm)
    subst hv0
    have hgu:=hg.out
    rw [Nat.gcd_zero_right] at hgu
    have HG:=Lib.hid hgu
    clear hl hlb hgu
    go_wp2_with (at_builtin; refine wpList_append_copy rfl (.const (.slice none 0 0)) (.tmp 35) rfl _ _ _ _ rfl rfl hu.out (fun v' w' h1 h2=>?_))
    obtain ⟨A2,m2,c2,rfl⟩:=h1.form
    have H1:=Lib.hid h1
    have H2:=Lib.hid h2
    clear h1 h2
    go_wp2_with fail
    have hz2:Slot _ b o 2:=(HZ.out.below hb.out HZ.out.lt).on H2.out
    have HB2:=Lib.hid (hb.out.trans (H2.out.mono hb.out.size))
    refine (is_any false hz2 H1.out).mono ?_
    rintro e w3 ⟨rfl,h1,h2⟩
    rw [val_dig,HG.out] at h1
    have H3:=Lib.hid h1
    have H4:=Lib.hid h2
    clear h1 h2 hz2
    go_wp2
    go_ret
    exact ⟨rfl,H3.out,(Touch.of_below HB2.out b o 2).trans H4.out⟩
end Go.Proofs.YtmfedaakeeiolaaGreat
end
