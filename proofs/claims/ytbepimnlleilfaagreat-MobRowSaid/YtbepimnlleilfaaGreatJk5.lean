/- RatC, Fs, May, Sz, Gqa. -/
import Derived.Test.YtbepimnlleilfaaGreatJk4
set_option linter.unnecessarySimpa false
set_option linter.unusedVariables false
set_option linter.unusedSimpArgs false
section
namespace Go.Proofs.YtbepimnlleilfaaGreat
open Go.RowKit
theorem rNum_any {w:World} {c p:Nat} {x:Rat} (hx:RatAt w c p x) :
  Calls Tryz.prog 263 #[.pointer (some ⟨c,p,none⟩)] w fun e w'=>∃ g,e=.returned (.pointer (some ⟨g,0,none⟩))∧w.heap.size≤g∧IntAt w' g 0 x.num∧Below w.heap.size w w':=by
 have HX:=Lib.hid hx
 clear hx
 go_enter Tryz.func263,Tryz.ntmps263
 have ha:Below w.heap.size w (w.alloc (.cells #[.bool false,.slice none 0 0] 161)):=(Below.refl _ _).alloc (Nat.le_refl _) _
 go_wp2_with fail
 refine (set_any (IntAt.new w).slot (HX.out.on ha).num).mono ?_
 rintro e w1 ⟨rfl,h1,h2⟩
 have H1:=Lib.hid h1
 have H2:=Lib.hid (ha.trans (h2.below (Nat.le_refl _) ha.size))
 clear h1 h2 ha
 go_wp2
 go_ret
 exact ⟨_,rfl,Nat.le_refl _,H1.out,H2.out⟩
theorem rDenom_any {w:World} {c p:Nat} {x:Rat} (hx:RatAt w c p x) :
  Calls Tryz.prog 264 #[.pointer (some ⟨c,p,none⟩)] w fun e w'=>∃ g,e=.returned (.pointer (some ⟨g,0,none⟩))∧w.heap.size≤g∧IntAt w' g 0 x.den∧Below w.heap.size w w':=by
 have HX:=Lib.hid hx
 clear hx
 go_enter Tryz.func264,Tryz.ntmps264
 have ha:Below w.heap.size w (w.alloc (.cells #[.bool false,.slice none 0 0] 161)):=(Below.refl _ _).alloc (Nat.le_refl _) _
 go_wp2_with fail
 refine (den_any (HX.out.on ha)).mono ?_
 rintro e w1 ⟨g,i,rfl,h1,h2,_⟩
 have hs:=(IntAt.new w).slot.on h2
 have HB:=Lib.hid (ha.trans (h2.mono ha.size))
 have H1:=Lib.hid h1
 clear h1 h2 ha
 go_wp2_with fail
 refine (set_any hs H1.out).mono ?_
 rintro e w2 ⟨rfl,h1,h2⟩
 have H2:=Lib.hid h1
 have H3:=Lib.hid (HB.out.trans (h2.below (Nat.le_refl _) HB.out.size))
 clear h1 h2 hs
 go_wp2
 go_ret
 exact ⟨_,rfl,Nat.le_refl _,H2.out,H3.out⟩
theorem rSign_any {w:World} {c p:Nat} {x:Rat} (hx:RatAt w c p x) :
  Calls Tryz.prog 124 #[.pointer (some ⟨c,p,none⟩)] w fun e w'=>e=.returned (.int .i64 x.num.sign)∧w=w':=by
 have HX:=Lib.hid hx
 clear hx
 go_enter Tryz.func124,Tryz.ntmps124
 go_wp2_with fail
 refine (sign_any HX.out.num).mono ?_
 rintro e w1 ⟨rfl,rfl⟩
 go_wp2
 go_ret
 exact ⟨rfl,rfl⟩
set_option maxHeartbeats 1600000 in
theorem rSet_any {w:World} {b o c p:Nat} {x:Rat} (hz:Slot w b o 4) (hx:RatAt w c p x) :
  Calls Tryz.prog 349 #[.pointer (some ⟨b,o,none⟩),.pointer (some ⟨c,p,none⟩)] w fun e w'=>e=.returned (.pointer (some ⟨b,o,none⟩))∧RatAt w' b o x∧Touch w w' b o 4:=by
 have HX:=Lib.hid hx
 have HZ:=Lib.hid hz
 clear hx hz
 go_enter Tryz.func349,Tryz.ntmps349
 have ha:Below w.heap.size w (w.alloc (.cells #[.bool false,.slice none 0 0] 161)):=(Below.refl _ _).alloc (Nat.le_refl _) _
 go_wp2_with fail
 refine (set_any (IntAt.new w).slot (HX.out.on ha).num).mono ?_
 rintro e w1 ⟨rfl,h1,h2⟩
 have HB1:=Lib.hid (ha.trans (h2.below (Nat.le_refl _) ha.size))
 have HN1:=Lib.hid h1
 clear h1 h2 ha
 have ha:Below w1.heap.size w1 (w1.alloc (.cells #[.bool false,.slice none 0 0] 161)):=(Below.refl _ _).alloc (Nat.le_refl _) _
 go_wp2_with fail
 refine (den_any ((HX.out.on HB1.out).on ha)).mono ?_
 rintro e w2 ⟨gd,id,rfl,h1,h2,_⟩
 have hs:=(IntAt.new w1).slot.on h2
 have HB2:=Lib.hid (ha.trans (h2.mono ha.size))
 have H1:=Lib.hid h1
 clear h1 h2 ha
 go_wp2_with fail
 refine (set_any hs H1.out).mono ?_
 rintro e w3 ⟨rfl,h1,h2⟩
 have hb3:Below w1.heap.size w1 w3:=HB2.out.trans (h2.below (Nat.le_refl _) HB2.out.size)
 have HN4:=Lib.hid (HN1.out.on hb3)
 have HD4:=Lib.hid h1
 have HZ4:Hid (Slot w3 b o 4):=(HZ.out.on HB1.out).on hb3
 have HB4:Hid (Below w.heap.size w w3):=HB1.out.trans (hb3.mono HB1.out.size)
 have HNE:Hid (w.heap.size≠b∧w1.heap.size≠b):=by
  have h3:=HZ.out.lt
  have h5:=HB1.out.size
  constructor<;>omega
 clear h1 h2 hs hb3 HN1 HX HZ HB1 HB2 H1
 revert HNE HN4 HD4
 obtain ⟨g1,hg1⟩:∃ g,g=w.heap.size:=⟨_,rfl⟩
 rw [← hg1]
 rw [← hg1] at HB4
 have HBW:=Lib.hid hg1
 clear hg1
 generalize w1.heap.size=g2
 intro HN4 HD4 HNE
 obtain ⟨A1,l1,c1,hn0,hn1,hnv,hnl⟩:=HN4.out.open_
 obtain ⟨A2,l2,c2,hd0,hd1,hdv,hdl⟩:=HD4.out.open_
 have HW1:=Lib.hid hnv
 have HW2:=Lib.hid hdv
 clear hnv hdv
 rw [Nat.zero_add] at hn1 hd1
 generalize hs1:decide (x.num<0)=s1 at hn0
 generalize hs2:decide ((x.den:Int)<0)=s2 at hd0
 have HS1:=Lib.hid hs1
 have HS2:=Lib.hid hs2
 clear hs1 hs2
 obtain ⟨v0,hv0⟩:=HZ4.out.cell o (by omega)
 obtain ⟨v1,hv1⟩:=HZ4.out.cell (o+1) (by omega)
 obtain ⟨v2,hv2⟩:=HZ4.out.cell (o+2) (by omega)
 obtain ⟨v3,hv3⟩:=HZ4.out.cell (o+2+1) (by omega)
 have hf:∀ i,w3.frozen? ⟨b,i,none⟩=false:=fun i=>HZ4.out.frozen i
 have hg1:=HNE.out.1
 have hg2:=HNE.out.2
 go_wp2
 go_region
 obtain ⟨hr,ht⟩:=ratAt_set HZ4.out HW1.out HW2.out HS1.out HS2.out
 have HRA:=Lib.hid hr
 have HTO:=Lib.hid ht
 clear hr ht
 go_wp2
 go_ret
 have hb:=HB4.out
 rw [HBW.out] at hb
 exact ⟨rfl,HRA.out.on (Below.refl _ _).drew,(((Touch.of_below hb b o 4).trans HTO.out)).drew⟩
theorem NewRat_any {w:World} {n m:Int} (hn : -9223372036854775808≤n∧n≤9223372036854775807) (hm : -9223372036854775808≤m∧m≤9223372036854775807) (h0:m≠0) :
  Calls Tryz.prog 250 #[.int .i64 n,.int .i64 m] w fun e w'=>∃ g,e=.returned (.pointer (some ⟨g,0,none⟩))∧w.heap.size≤g∧RatAt w' g 0 (Rat.divInt n m)∧Below w.heap.size w w':=by
 have HN:=Lib.hid hn
 have HM:=Lib.hid hm
 have H0:=Lib.hid h0
 have KN:Hid (Okn n):=Okn.small (Nat.lt_of_le_of_lt (show n.natAbs≤9223372036854775808 by omega) (by decide))
 have KM:Hid (Okn m):=Okn.small (Nat.lt_of_le_of_lt (show m.natAbs≤9223372036854775808 by omega) (by decide))
 clear hn hm h0
 go_enter Tryz.func250,Tryz.ntmps250
 have ha:Below w.heap.size w (w.alloc (.cells #[.bool false,.slice none 0 0,.bool false,.slice none 0 0] 163)):=(Below.refl _ _).alloc (Nat.le_refl _) _
 go_wp2_with fail
 refine (NewInt_any HN.out).mono ?_
 rintro e w1 ⟨g1,rfl,_,h1,h2⟩
 have HS:=Lib.hid ((RatAt.new w).slot.on h2)
 have HB1:=Lib.hid (ha.trans (h2.mono ha.size))
 have H1:=Lib.hid h1
 clear h1 h2 ha
 go_wp2_with fail
 refine (NewInt_any HM.out).mono ?_
 rintro e w2 ⟨g2,rfl,_,h1,h2⟩
 have hs:=HS.out.on h2
 have hn2:=H1.out.on h2
 have HB2:=Lib.hid (HB1.out.trans (h2.mono HB1.out.size))
 have H2:=Lib.hid h1
 clear h1 h2 HB1
 go_wp2_with fail
 refine (SetFrac_any hs hn2 H2.out H0.out KN.out KM.out).mono ?_
 rintro e w3 ⟨rfl,h1,h2⟩
 have H3:=Lib.hid h1
 have HB3:=Lib.hid (HB2.out.trans (h2.below (Nat.le_refl _) HB2.out.size))
 clear h1 h2 hs hn2
 go_wp2
 go_ret
 exact ⟨_,rfl,Nat.le_refl _,H3.out,HB3.out⟩
theorem divInt_inv (x:Rat):Rat.divInt x.den x.num=x⁻¹:=(Rat.inv_def x).symm
set_option maxRecDepth 100000 in
theorem rInv_any {w:World} {b o c p:Nat} {x:Rat} (hz:Slot w b o 4) (hx:RatAt w c p x) (kx:OkR x) (h0:x≠0) :
  Calls Tryz.prog 125 #[.pointer (some ⟨b,o,none⟩),.pointer (some ⟨c,p,none⟩)] w fun e w'=>e=.returned (.pointer (some ⟨b,o,none⟩))∧RatAt w' b o x⁻¹∧Touch w w' b o 4:=by
 have HX:=Lib.hid hx
 have HZ:=Lib.hid hz
 have KX:=Lib.hid kx
 have HN0:Hid (x.num≠0):=fun h=>h0 (Rat.num_eq_zero.1 h)
 clear hx hz kx h0
 go_enter Tryz.func125,Tryz.ntmps125
 go_wp2
 refine wp_region_ghost 6 (GC w.heap.size w [2]) (fun γ wq _ wr=>GE w.heap.size [] γ wq wr) (fun i γ wq v=>match i with
   | 0=>v=.pointer (some ⟨b,o,none⟩)
   | 1=>v=.pointer (some ⟨c,p,none⟩)
   | 2=>VD ((x).den:Int) wq v
   | 3=>v=.pointer (some ⟨c,p,none⟩)
   | 4=>v=.pointer (some ⟨c,p,none⟩)
   | 5=>v=.pointer (some ⟨c,p,none⟩)
   | _=>True) (by kernel_rfl) (by kernel_rfl) (by kernel_rfl) (GC.start _ (Nat.le_refl _)) ?_ ⟨?_,?_,?_,?_,?_,?_,trivial⟩ ?_
 · intro i γ w1 k xq w2 v hC hC2 hE hk hi hV
   match i with
   | 0=>exact hV
   | 1=>exact hV
   | 2=>exact VD.stable 2 hV hC hE hi rfl
   | 3=>exact hV
   | 4=>exact hV
   | 5=>exact hV
   | _+6=>trivial
 · intro a' γ w' hag hC hk hd K hK
   have e0:a'.tmps.getD 0 undef=.pointer (some ⟨b,o,none⟩):=hag 0 rfl
   go_step
   exact hK _ _ (hC.step 0 _ rfl (Below.refl _ _)) (GE.refl _ _ _ _) rfl
 · intro a' γ w' hag hC hk hd K hK
   have e1:a'.tmps.getD 1 undef=.pointer (some ⟨c,p,none⟩):=hag 1 rfl
   go_step
   exact hK _ _ (hC.step 1 _ rfl (Below.refl _ _)) (GE.refl _ _ _ _) rfl
 · intro a' γ w' hag hC hk hd K hK
   have e6:a'.tmps.getD 6 undef=.pointer (some ⟨c,p,none⟩):=hd.1.2
   have hx:=HX.out.on hC.below
   go_step
   refine (den_any hx).mono ?_
   rintro e w2 ⟨g,j,rfl,h1,h2,h3⟩
   exact hK _ _ (hC.own 2 _ _ h2 h1.lt (h3.imp (fun e=>by rw [e]; exact HX.out.lt) id)) (GE.below _ _ h2) ⟨_,_,rfl,h1⟩
 · intro a' γ w' hag hC hk hd K hK
   have e1:a'.tmps.getD 1 undef=.pointer (some ⟨c,p,none⟩):=hag 1 rfl
   go_step
   exact hK _ _ (hC.step 3 _ rfl (Below.refl _ _)) (GE.refl _ _ _ _) rfl
 · intro a' γ w' hag hC hk hd K hK
   have e8:a'.tmps.getD 8 undef=.pointer (some ⟨c,p,none⟩):=hd.1.2
   go_step
   exact hK _ _ (hC.step 4 _ rfl (Below.refl _ _)) (GE.refl _ _ _ _) rfl
 · intro a' γ w' hag hC hk hd K hK
   have e9:a'.tmps.getD 9 undef=.pointer (some ⟨c,p,none⟩):=hd.1.2
   go_step
   exact hK _ _ (hC.step 5 _ rfl (Below.refl _ _)) (GE.refl _ _ _ _) rfl
 · intro γ u w' hC hgh hall
   obtain ⟨u0,u1,u2,u3,u4,u5,_⟩:=hall
   have u0:u 0=.pointer (some ⟨b,o,none⟩):=u0
   have u1:u 1=.pointer (some ⟨c,p,none⟩):=u1
   obtain ⟨g7,i7,eu2,h7⟩:=u2
   have u2:u 2=.pointer (some ⟨g7,i7,none⟩):=eu2
   have u3:u 3=.pointer (some ⟨c,p,none⟩):=u3
   have u4:u 4=.pointer (some ⟨c,p,none⟩):=u4
   have u5:u 5=.pointer (some ⟨c,p,none⟩):=u5
   simp only [fillR,List.take_succ_cons,List.take_zero,Act.put,List.setIfInBounds_toArray,List.set_cons_succ,List.set_cons_zero,Nat.zero_add,Nat.reduceAdd,u0,u1,u2,u3,u4,u5]
   clear u0 u1 u2 u3 u4 u5
   have HC:=Lib.hid hC.below
   have H7:=Lib.hid h7
   have hz2:=HZ.out.on HC.out
   have hx2:=HX.out.on HC.out
   clear hC h7
   go_wp2_with fail
   refine (SetFrac_any hz2 H7.out hx2.num HN0.out KX.out.den KX.out.num).mono ?_
   rintro e w3 ⟨rfl,h1,h2⟩
   rw [divInt_inv] at h1
   have H1:=Lib.hid h1
   have HT:=Lib.hid ((Touch.of_below HC.out b o 4).trans h2)
   clear h1 h2 hz2 hx2
   go_wp2
   go_ret
   exact ⟨rfl,H1.out,HT.out⟩
set_option maxRecDepth 100000 in
theorem rNeg_any {w:World} {b o c p:Nat} {x:Rat} (hz:Slot w b o 4) (hx:RatAt w c p x) :
  Calls Tryz.prog 276 #[.pointer (some ⟨b,o,none⟩),.pointer (some ⟨c,p,none⟩)] w fun e w'=>e=.returned (.pointer (some ⟨b,o,none⟩))∧RatAt w' b o (-x)∧Touch w w' b o 4:=by
 have HX:=Lib.hid hx
 have HZ:=Lib.hid hz
 clear hx hz
 go_enter Tryz.func276,Tryz.ntmps276
 go_wp2_with fail
 refine (rSet_any HZ.out HX.out).mono ?_
 rintro e w1 ⟨rfl,h1,h2⟩
 have H1:=Lib.hid h1
 have H2:=Lib.hid h2
 clear h1 h2
 go_wp2
 refine wp_region_ghost 6 (GC w1.heap.size w1 []) (fun γ wq _ wr=>GE w1.heap.size [] γ wq wr) (fun i γ wq v=>match i with
   | 0=>v=.pointer (some ⟨b,o,none⟩)
   | 1=>v=.pointer (some ⟨b,o,none⟩)
   | 2=>v=.pointer (some ⟨b,o,none⟩)
   | 3=>v=.pointer (some ⟨b,o,none⟩)
   | 4=>v=.pointer (some ⟨b,o,none⟩)
   | 5=>v=.pointer (some ⟨b,o,none⟩)
   | _=>True) (by kernel_rfl) (by kernel_rfl) (by kernel_rfl) (GC.start _ (Nat.le_refl _)) ?_ ⟨?_,?_,?_,?_,?_,?_,trivial⟩ ?_
 · intro i γ w1 k xq w2 v hC hC2 hE hk hi hV
   match i with
   | 0=>exact hV
   | 1=>exact hV
   | 2=>exact hV
   | 3=>exact hV
   | 4=>exact hV
   | 5=>exact hV
   | _+6=>trivial
 · intro a' γ w' hag hC hk hd K hK
   have e0:a'.tmps.getD 0 undef=.pointer (some ⟨b,o,none⟩):=hag 0 rfl
   go_step
   exact hK _ _ (hC.step 0 _ rfl (Below.refl _ _)) (GE.refl _ _ _ _) rfl
 · intro a' γ w' hag hC hk hd K hK
   have e8:a'.tmps.getD 8 undef=.pointer (some ⟨b,o,none⟩):=hd.1.2
   go_step
   exact hK _ _ (hC.step 1 _ rfl (Below.refl _ _)) (GE.refl _ _ _ _) rfl
 · intro a' γ w' hag hC hk hd K hK
   have e9:a'.tmps.getD 9 undef=.pointer (some ⟨b,o,none⟩):=hd.1.2
   go_step
   exact hK _ _ (hC.step 2 _ rfl (Below.refl _ _)) (GE.refl _ _ _ _) rfl
 · intro a' γ w' hag hC hk hd K hK
   have e0:a'.tmps.getD 0 undef=.pointer (some ⟨b,o,none⟩):=hag 0 rfl
   go_step
   exact hK _ _ (hC.step 3 _ rfl (Below.refl _ _)) (GE.refl _ _ _ _) rfl
 · intro a' γ w' hag hC hk hd K hK
   have e11:a'.tmps.getD 11 undef=.pointer (some ⟨b,o,none⟩):=hd.1.2
   go_step
   exact hK _ _ (hC.step 4 _ rfl (Below.refl _ _)) (GE.refl _ _ _ _) rfl
 · intro a' γ w' hag hC hk hd K hK
   have e12:a'.tmps.getD 12 undef=.pointer (some ⟨b,o,none⟩):=hd.1.2
   go_step
   exact hK _ _ (hC.step 5 _ rfl (Below.refl _ _)) (GE.refl _ _ _ _) rfl
 · intro γ u w' hC hgh hall
   obtain ⟨u0,u1,u2,u3,u4,u5,_⟩:=hall
   have u0:u 0=.pointer (some ⟨b,o,none⟩):=u0
   have u1:u 1=.pointer (some ⟨b,o,none⟩):=u1
   have u2:u 2=.pointer (some ⟨b,o,none⟩):=u2
   have u3:u 3=.pointer (some ⟨b,o,none⟩):=u3
   have u4:u 4=.pointer (some ⟨b,o,none⟩):=u4
   have u5:u 5=.pointer (some ⟨b,o,none⟩):=u5
   simp only [fillR,List.take_succ_cons,List.take_zero,Act.put,List.setIfInBounds_toArray,List.set_cons_succ,List.set_cons_zero,Nat.zero_add,Nat.reduceAdd,u0,u1,u2,u3,u4,u5]
   clear u0 u1 u2 u3 u4 u5
   have HC:=Lib.hid hC.below
   have hx2:=H1.out.on HC.out
   clear hC
   go_wp2_with fail
   refine (neg_any hx2.num.slot hx2.num).mono ?_
   rintro e w3 ⟨rfl,h3,h4⟩
   have HT:Hid (Touch w w3 b o 4):=H2.out.trans ((Touch.of_below HC.out b o 4).trans (h4.mono (Nat.le_refl _) (by omega)))
   have HR:Hid (RatAt w3 b o (-x)):=by
    obtain ⟨k1,k2,dd,k3,k4⟩:=hx2
    refine ⟨k1.touch h4,by rw [Rat.neg_num]; exact h3,dd,k3.touch k2.slot h4 (.inr (.inr (Nat.le_refl _))),by rw [Rat.neg_den]; exact k4⟩
   clear h3 h4 hx2
   go_wp2
   go_ret
   exact ⟨rfl,HR.out,HT.out⟩
theorem wholeV_nat (d:Nat):wholeV (d:Int)=.agg #[.bool false,.string (mag d)]:=by
 unfold wholeV
 rw [show decide ((d:Int)<0)=false by simp,Int.natAbs_natCast]
def Fit (q:Rat):Prop:=(mag q.num.natAbs).size≤1024∧(mag q.den).size≤1024
theorem wl_size {n:Nat} {k:Nat} (h:(mag n).size≤k):(dig n).length≤(k+3)/4:=by
 refine dig_len_le _ _ ?_
 rw [mag_size_le,p256] at h
 rw [p32]
 exact Nat.lt_of_lt_of_le h (Nat.pow_le_pow_right (by decide) (by omega))
theorem mag_mono {a b k:Nat} (h:a≤b) (hk:(mag b).size≤k):(mag a).size≤k:=by
 rw [mag_size_le] at *
 omega
theorem num_le (n d:Int) (hd:d≠0):(Rat.divInt n d).num.natAbs≤n.natAbs:=by
 rw [Rat.num_divInt]
 refine Nat.le_trans (Int.natAbs_ediv_le_natAbs _ _) ?_
 rw [Int.natAbs_mul]
 have h:d.sign.natAbs≤1:=by
  rcases Int.lt_trichotomy d 0 with h | h | h
  · rw [Int.sign_eq_neg_one_of_neg h]; decide
  · exact absurd h hd
  · rw [Int.sign_eq_one_of_pos h]; decide
 calc d.sign.natAbs*n.natAbs≤1*n.natAbs:=Nat.mul_le_mul_right _ h
  _=n.natAbs:=Nat.one_mul _
theorem den_le (n d:Int) (hd:d≠0):(Rat.divInt n d).den≤d.natAbs:=by
 rw [Rat.den_divInt,if_neg hd]
 exact Nat.div_le_self _ _
def IsFrac (v:Value):Prop:=∃ q,Fit q∧v=fracV q
theorem agg4 {b c b' c':Bool} {s t s' t':ByteArray} (h:(Value.agg #[.bool b,.string s,.bool c,.string t])=.agg #[.bool b',.string s',.bool c',.string t']):b=b'∧s=s'∧c=c'∧t=t':=by
 injection h with h
 injection h with h
 injection h with h1 h
 injection h with h2 h
 injection h with h3 h
 injection h with h4 _
 injection h1 with h1
 injection h2 with h2
 injection h3 with h3
 injection h4 with h4
 exact ⟨h1,h2,h3,h4⟩
theorem isFrac_parts {b c:Bool} {s t:ByteArray} (h:IsFrac (.agg #[.bool b,.string s,.bool c,.string t])) :
  WholeOk b s∧WholeOk c t∧s.size≤1024∧t.size≤1024∧0<(numOf c t)∧(Value.agg #[.bool b,.string s,.bool c,.string t])=fracV (Rat.divInt (numOf b s) (numOf c t)):=by
 obtain ⟨q,hf,hv⟩:=h
 obtain ⟨rfl,rfl,rfl,rfl⟩:=agg4 hv
 have h1:=ok_wholeV q.num (Nat.le_trans hf.1 (by decide))
 have h2:=ok_wholeV (q.den:Int) (by rw [Int.natAbs_natCast]; exact Nat.le_trans hf.2 (by decide))
 have e:decide ((q.den:Int)<0)=false:=by simp
 rw [e,Int.natAbs_natCast] at h2
 have n1:=numOf_mag q.num
 have n2:=numOf_mag (q.den:Int)
 rw [e,Int.natAbs_natCast] at n2
 refine ⟨h1,h2,hf.1,hf.2,?_,?_⟩
 · rw [n2]; have:=q.den_pos; omega
 · rw [n1,n2,Rat.num_divInt_den]
   rfl
theorem isFrac_of {b c:Bool} {s t:ByteArray} (h1:s.size≤1024) (h2:t.size≤1024) {q:Rat} (h:(Value.agg #[.bool b,.string s,.bool c,.string t])=fracV q):IsFrac (.agg #[.bool b,.string s,.bool c,.string t]):=by
 refine ⟨q,?_,h⟩
 obtain ⟨rfl,rfl,rfl,rfl⟩:=agg4 h
 exact ⟨h1,h2⟩
theorem toList_inj {a b:ByteArray}:a.toList=b.toList↔a=b:=by
 constructor
 · intro h
   rw [ByteArray.toList_eq,ByteArray.toList_eq] at h
   obtain ⟨⟨x⟩⟩:=a
   obtain ⟨⟨y⟩⟩:=b
   have:x=y:=h
   rw [this]
 · rintro rfl; rfl
def sz (n:Int):Nat:=(mag n.natAbs).size
theorem sz_le {n:Int} {k:Nat}:sz n≤k↔n.natAbs<256^k:=mag_size_le
theorem sz_mul {a b:Int} {i j:Nat} (h:sz a≤i) (k:sz b≤j):sz (a*b)≤i+j:=by
 rw [sz_le] at *
 rw [Int.natAbs_mul,Nat.pow_add]
 exact Nat.mul_lt_mul'' h k
theorem sz_add {a b:Int} {i:Nat} (h:sz a≤i) (k:sz b≤i):sz (a+b)≤i+1:=by
 rw [sz_le] at *
 rw [Nat.pow_succ]
 have:=Int.natAbs_add_le a b
 omega
theorem sz_neg (a:Int):sz (-a)=sz a:=by
 unfold sz; rw [Int.natAbs_neg]
theorem sz_sub {a b:Int} {i:Nat} (h:sz a≤i) (k:sz b≤i):sz (a-b)≤i+1:=by
 rw [Int.sub_eq_add_neg]
 exact sz_add h (by rw [sz_neg]; exact k)
theorem sz_nat (d:Nat):sz (d:Int)=(mag d).size:=by unfold sz; rw [Int.natAbs_natCast]
def Sz (k:Nat) (q:Rat):Prop:=sz q.num≤k∧sz (q.den:Int)≤k
theorem Sz.mono {i k:Nat} {q:Rat} (h:Sz i q) (hk:i≤k):Sz k q:=⟨Nat.le_trans h.1 hk,Nat.le_trans h.2 hk⟩
theorem Sz.fit {k:Nat} {q:Rat} (h:Sz k q) (hk:k≤1024):Fit q:=⟨Nat.le_trans h.1 hk,by have:=h.2; rw [sz_nat] at this; omega⟩
theorem Sz.neg {k:Nat} {x:Rat} (h:Sz k x):Sz k (-x):=⟨by rw [show (-x).num = -x.num from rfl,sz_neg]; exact h.1,h.2⟩
theorem Fit.sz {q:Rat} (h:Fit q):Sz 1024 q:=⟨h.1,by rw [sz_nat]; exact h.2⟩
theorem sz_divInt {n d:Int} {k:Nat} (hd:d≠0) (h1:sz n≤k) (h2:sz d≤k):Sz k (Rat.divInt n d) :=
 ⟨mag_mono (num_le n d hd) h1,by rw [sz_nat]; exact mag_mono (den_le n d hd) h2⟩
theorem Sz.mul {i j:Nat} {x y:Rat} (h:Sz i x) (k:Sz j y):Sz (i+j) (x*y):=by
 rw [← divInt_mul]
 exact sz_divInt (Int.mul_ne_zero (den_ne x) (den_ne y)) (sz_mul h.1 k.1) (sz_mul h.2 k.2)
theorem Sz.div {i j:Nat} {x y:Rat} (h:Sz i x) (k:Sz j y) (h0:y≠0):Sz (i+j) (x/y):=by
 rw [← divInt_quo]
 exact sz_divInt (Int.mul_ne_zero (den_ne x) fun e=>h0 (Rat.num_eq_zero.1 e)) (sz_mul h.1 k.2) (sz_mul h.2 k.1)
theorem Sz.add {i j:Nat} {x y:Rat} (h:Sz i x) (k:Sz j y):Sz (i+j+1) (x+y):=by
 rw [← divInt_Add]
 refine sz_divInt (Int.mul_ne_zero (den_ne x) (den_ne y)) (sz_add (sz_mul h.1 k.2) ?_) (Nat.le_succ_of_le (sz_mul h.2 k.2))
 rw [Nat.add_comm]
 exact sz_mul k.1 h.2
theorem Sz.sub {i j:Nat} {x y:Rat} (h:Sz i x) (k:Sz j y):Sz (i+j+1) (x-y):=by
 rw [← divInt_Sub]
 refine sz_divInt (Int.mul_ne_zero (den_ne x) (den_ne y)) (sz_sub (sz_mul h.1 k.2) ?_) (Nat.le_succ_of_le (sz_mul h.2 k.2))
 rw [Nat.add_comm]
 exact sz_mul k.1 h.2
theorem Sz.okR2 {k:Nat} {q:Rat} (h:Sz k q) (hk:k≤4000000000):OkR q:=by
 have k1:=wl_size (Nat.le_trans h.1 hk)
 have k2:=wl_size (Nat.le_trans h.2 hk)
 refine ⟨?_,?_⟩
 · show (dig _).length≤_
   omega
 · show (dig ((q.den:Int)).natAbs).length≤_
   omega
theorem Sz.inv {k:Nat} {x:Rat} (h:Sz k x) (h0:x≠0):Sz k x⁻¹:=by
 rw [← divInt_inv]
 exact sz_divInt (fun e=>h0 (Rat.num_eq_zero.1 e)) h.2 h.1
structure GQ where
 re:Rat
 im:Rat
theorem GQ.ext2 {z w:GQ} (h:z.re=w.re) (k:z.im=w.im):z=w:=by cases z; cases w; cases h; cases k; rfl
def gadd (z w:GQ):GQ:=⟨z.re+w.re,z.im+w.im⟩
def gsub (z w:GQ):GQ:=⟨z.re-w.re,z.im-w.im⟩
def gmul (z w:GQ):GQ:=⟨z.re*w.re-z.im*w.im,z.re*w.im+z.im*w.re⟩
def gneg (z:GQ):GQ:=⟨-z.re,-z.im⟩
def gconj (z:GQ):GQ:=⟨z.re,-z.im⟩
def gnorm (z:GQ):Rat:=z.re*z.re+z.im*z.im
def gscale (z:GQ) (x:Rat):GQ:=⟨z.re*x,z.im*x⟩
def gdiv (z w:GQ):GQ:=gscale (gmul z (gconj w)) (gnorm w)⁻¹
def gint (n m:Int):GQ:=⟨Rat.divInt n 1,Rat.divInt m 1⟩
def gzero (z:GQ):Bool:=decide (z.re=0)&&decide (z.im=0)
theorem gzero_iff {z:GQ}:gzero z=true↔z.re=0∧z.im=0:=by simp [gzero]
theorem rsq_nonneg (x:Rat):0≤x*x:=by
 rcases (Rat.le_total:(0:Rat)≤x∨x≤0) with h | h
 · exact Rat.mul_nonneg h h
 · have:=Rat.mul_nonneg (Rat.neg_le_neg h) (Rat.neg_le_neg h)
   rwa [Rat.neg_mul,Rat.mul_neg,Rat.neg_neg] at this
theorem gnorm_ne {z:GQ} (h:gzero z=false):gnorm z≠0:=by
 intro e
 have h1:=rsq_nonneg z.re
 have h2:=rsq_nonneg z.im
 have h3:z.re*z.re=0∧z.im*z.im=0:=by unfold gnorm at e; constructor<;>grind
 have h4:z.re=0:=(Rat.mul_eq_zero.1 h3.1).elim id id
 have h5:z.im=0:=(Rat.mul_eq_zero.1 h3.2).elim id id
 have:=gzero_iff.2 ⟨h4,h5⟩
 rw [h] at this
 cases this
def GSz (k:Nat) (z:GQ):Prop:=Sz k z.re∧Sz k z.im
theorem GSz.mono {i k:Nat} {z:GQ} (h:GSz i z) (hk:i≤k):GSz k z:=⟨h.1.mono hk,h.2.mono hk⟩
theorem GSz.add {i j:Nat} {z w:GQ} (h:GSz i z) (k:GSz j w):GSz (i+j+1) (gadd z w):=⟨h.1.add k.1,h.2.add k.2⟩
theorem GSz.sub {i j:Nat} {z w:GQ} (h:GSz i z) (k:GSz j w):GSz (i+j+1) (gsub z w):=⟨h.1.sub k.1,h.2.sub k.2⟩
theorem GSz.mul {i j:Nat} {z w:GQ} (h:GSz i z) (k:GSz j w):GSz (i+j+(i+j)+1) (gmul z w):=⟨(h.1.mul k.1).sub (h.2.mul k.2),(h.1.mul k.2).add (h.2.mul k.1)⟩
theorem GSz.neg {i:Nat} {z:GQ} (h:GSz i z):GSz i (gneg z):=⟨h.1.neg,h.2.neg⟩
theorem GSz.conj {i:Nat} {z:GQ} (h:GSz i z):GSz i (gconj z):=⟨h.1,h.2.neg⟩
theorem GSz.norm {i:Nat} {z:GQ} (h:GSz i z):Sz (i+i+(i+i)+1) (gnorm z):=(h.1.mul h.1).add (h.2.mul h.2)
theorem GSz.scale {i j:Nat} {z:GQ} {x:Rat} (h:GSz i z) (k:Sz j x):GSz (i+j) (gscale z x):=⟨h.1.mul k,h.2.mul k⟩
theorem GSz.div {i j:Nat} {z w:GQ} (h:GSz i z) (k:GSz j w) (h0:gzero w=false):GSz (i+j+(i+j)+1+(j+j+(j+j)+1)) (gdiv z w):=(h.mul k.conj).scale (k.norm.inv (gnorm_ne h0))
theorem sz_small {n:Int} (h:n.natAbs<256):sz n≤1:=by rw [sz_le]; exact h
theorem Sz.small {n:Int} (h:n.natAbs<256):Sz 1 (Rat.divInt n 1):=sz_divInt (by decide) (sz_small h) (sz_small (by decide))
theorem GSz.int {n m:Int} (h:n.natAbs<256) (k:m.natAbs<256):GSz 1 (gint n m):=⟨Sz.small h,Sz.small k⟩
end Go.Proofs.YtbepimnlleilfaaGreat
end
