/- RatC, Fr, Fs, May, Sz, Gqa. -/
import Derived.Test.YtbepimnlleilfaaGreatNk4
set_option linter.unnecessarySimpa false
set_option linter.unusedVariables false
set_option linter.unusedSimpArgs false
section
namespace Go.Proofs.YtbepimnlleilfaaGreat
open Go.RowKit
theorem rNum_any {w:World} {c p:Nat} {x:Rat} (hx:RatAt w c p x) :
  Calls Tryz.prog 263 #[.pointer (some ⟨c,p,none⟩)] w fun e w'=>∃ g,e=.returned (.pointer (some ⟨g,0,none⟩))∧w.heap.size≤g∧IntAt w' g 0 x.num∧Below w.heap.size w w':=by
 have HX:=Lib.hid hx
 clear hx
 go_enter Tryz.func263,Tryz.ntmps263
 have ha:Below w.heap.size w (w.alloc (.cells #[.bool false,.slice none 0 0] 161)):=(Below.refl _ _).alloc (Nat.le_refl _) _
 go_wp2_with fail
 refine (set_any (IntAt.new w).slot (HX.out.on ha).num).mono ?_
 rintro e w1 ⟨rfl,h1,h2⟩
 have H1:=Lib.hid h1
 have H2:=Lib.hid (ha.trans (h2.below (Nat.le_refl _) ha.size))
 clear h1 h2 ha
 go_wp2
 go_ret
 exact ⟨_,rfl,Nat.le_refl _,H1.out,H2.out⟩
theorem rDenom_any {w:World} {c p:Nat} {x:Rat} (hx:RatAt w c p x) :
  Calls Tryz.prog 264 #[.pointer (some ⟨c,p,none⟩)] w fun e w'=>∃ g,e=.returned (.pointer (some ⟨g,0,none⟩))∧w.heap.size≤g∧IntAt w' g 0 x.den∧Below w.heap.size w w':=by
 have HX:=Lib.hid hx
 clear hx
 go_enter Tryz.func264,Tryz.ntmps264
 have ha:Below w.heap.size w (w.alloc (.cells #[.bool false,.slice none 0 0] 161)):=(Below.refl _ _).alloc (Nat.le_refl _) _
 go_wp2_with fail
 refine (zQ3 (HX.out.on ha)).mono ?_
 rintro e w1 ⟨g,i,rfl,h1,h2,_⟩
 have hs:=(IntAt.new w).slot.on h2
 have HB:=Lib.hid (ha.trans (h2.mono ha.size))
 have H1:=Lib.hid h1
 clear h1 h2 ha
 go_wp2_with fail
 refine (set_any hs H1.out).mono ?_
 rintro e w2 ⟨rfl,h1,h2⟩
 have H2:=Lib.hid h1
 have H3:=Lib.hid (HB.out.trans (h2.below (Nat.le_refl _) HB.out.size))
 clear h1 h2 hs
 go_wp2
 go_ret
 exact ⟨_,rfl,Nat.le_refl _,H2.out,H3.out⟩
theorem rSign_any {w:World} {c p:Nat} {x:Rat} (hx:RatAt w c p x) :
  Calls Tryz.prog 124 #[.pointer (some ⟨c,p,none⟩)] w fun e w'=>e=.returned (.int .i64 x.num.sign)∧w=w':=by
 have HX:=Lib.hid hx
 clear hx
 go_enter Tryz.func124,Tryz.ntmps124
 go_wp2_with fail
 refine (sign_any HX.out.num).mono ?_
 rintro e w1 ⟨rfl,rfl⟩
 go_wp2
 go_ret
 exact ⟨rfl,rfl⟩
set_option maxHeartbeats 1600000 in
theorem rSet_any {w:World} {b o c p:Nat} {x:Rat} (hz:Slot w b o 4) (hx:RatAt w c p x) :
  Calls Tryz.prog 349 #[.pointer (some ⟨b,o,none⟩),.pointer (some ⟨c,p,none⟩)] w fun e w'=>e=.returned (.pointer (some ⟨b,o,none⟩))∧RatAt w' b o x∧Touch w w' b o 4:=by
 have HX:=Lib.hid hx
 have HZ:=Lib.hid hz
 clear hx hz
 go_enter Tryz.func349,Tryz.ntmps349
 have ha:Below w.heap.size w (w.alloc (.cells #[.bool false,.slice none 0 0] 161)):=(Below.refl _ _).alloc (Nat.le_refl _) _
 go_wp2_with fail
 refine (set_any (IntAt.new w).slot (HX.out.on ha).num).mono ?_
 rintro e w1 ⟨rfl,h1,h2⟩
 have HB1:=Lib.hid (ha.trans (h2.below (Nat.le_refl _) ha.size))
 have HN1:=Lib.hid h1
 clear h1 h2 ha
 have ha:Below w1.heap.size w1 (w1.alloc (.cells #[.bool false,.slice none 0 0] 161)):=(Below.refl _ _).alloc (Nat.le_refl _) _
 go_wp2_with fail
 refine (zQ3 ((HX.out.on HB1.out).on ha)).mono ?_
 rintro e w2 ⟨gd,id,rfl,h1,h2,_⟩
 have hs:=(IntAt.new w1).slot.on h2
 have HB2:=Lib.hid (ha.trans (h2.mono ha.size))
 have H1:=Lib.hid h1
 clear h1 h2 ha
 go_wp2_with fail
 refine (set_any hs H1.out).mono ?_
 rintro e w3 ⟨rfl,h1,h2⟩
 have hb3:Below w1.heap.size w1 w3:=HB2.out.trans (h2.below (Nat.le_refl _) HB2.out.size)
 have HN4:=Lib.hid (HN1.out.on hb3)
 have HD4:=Lib.hid h1
 have HZ4:Hid (Slot w3 b o 4):=(HZ.out.on HB1.out).on hb3
 have HB4:Hid (Below w.heap.size w w3):=HB1.out.trans (hb3.mono HB1.out.size)
 have HNE:Hid (w.heap.size≠b∧w1.heap.size≠b):=by
  have h3:=HZ.out.lt
  have h5:=HB1.out.size
  constructor<;>omega
 clear h1 h2 hs hb3 HN1 HX HZ HB1 HB2 H1
 revert HNE HN4 HD4
 obtain ⟨g1,hg1⟩:∃ g,g=w.heap.size:=⟨_,rfl⟩
 rw [← hg1]
 rw [← hg1] at HB4
 have HBW:=Lib.hid hg1
 clear hg1
 generalize w1.heap.size=g2
 intro HN4 HD4 HNE
 obtain ⟨A1,l1,c1,hn0,hn1,hnv,hnl⟩:=HN4.out.open_
 obtain ⟨A2,l2,c2,hd0,hd1,hdv,hdl⟩:=HD4.out.open_
 have HW1:=Lib.hid hnv
 have HW2:=Lib.hid hdv
 clear hnv hdv
 rw [Nat.zero_add] at hn1 hd1
 generalize hs1:decide (x.num<0)=s1 at hn0
 generalize hs2:decide ((x.den:Int)<0)=s2 at hd0
 have HS1:=Lib.hid hs1
 have HS2:=Lib.hid hs2
 clear hs1 hs2
 obtain ⟨v0,hv0⟩:=HZ4.out.cell o (by omega)
 obtain ⟨v1,hv1⟩:=HZ4.out.cell (o+1) (by omega)
 obtain ⟨v2,hv2⟩:=HZ4.out.cell (o+2) (by omega)
 obtain ⟨v3,hv3⟩:=HZ4.out.cell (o+2+1) (by omega)
 have hf:∀ i,w3.frozen? ⟨b,i,none⟩=false:=fun i=>HZ4.out.frozen i
 have hg1:=HNE.out.1
 have hg2:=HNE.out.2
 go_wp2
 go_region
 obtain ⟨hr,ht⟩:=ratAt_set HZ4.out HW1.out HW2.out HS1.out HS2.out
 have HRA:=Lib.hid hr
 have HTO:=Lib.hid ht
 clear hr ht
 go_wp2
 go_ret
 have hb:=HB4.out
 rw [HBW.out] at hb
 exact ⟨rfl,HRA.out.on (Below.refl _ _).drew,(((Touch.of_below hb b o 4).trans HTO.out)).drew⟩
theorem NewRat_any {w:World} {n m:Int} (hn : -9223372036854775808≤n∧n≤9223372036854775807) (hm : -9223372036854775808≤m∧m≤9223372036854775807) (h0:m≠0) :
  Calls Tryz.prog 250 #[.int .i64 n,.int .i64 m] w fun e w'=>∃ g,e=.returned (.pointer (some ⟨g,0,none⟩))∧w.heap.size≤g∧RatAt w' g 0 (Rat.divInt n m)∧Below w.heap.size w w':=by
 have HN:=Lib.hid hn
 have HM:=Lib.hid hm
 have H0:=Lib.hid h0
 have KN:Hid (Okn n):=Okn.small (Nat.lt_of_le_of_lt (show n.natAbs≤9223372036854775808 by omega) (by decide))
 have KM:Hid (Okn m):=Okn.small (Nat.lt_of_le_of_lt (show m.natAbs≤9223372036854775808 by omega) (by decide))
 clear hn hm h0
 go_enter Tryz.func250,Tryz.ntmps250
 have ha:Below w.heap.size w (w.alloc (.cells #[.bool false,.slice none 0 0,.bool false,.slice none 0 0] 163)):=(Below.refl _ _).alloc (Nat.le_refl _) _
 go_wp2_with fail
 refine (NewInt_any HN.out).mono ?_
 rintro e w1 ⟨g1,rfl,_,h1,h2⟩
 have HS:=Lib.hid ((RatAt.new w).slot.on h2)
 have HB1:=Lib.hid (ha.trans (h2.mono ha.size))
 have H1:=Lib.hid h1
 clear h1 h2 ha
 go_wp2_with fail
 refine (NewInt_any HM.out).mono ?_
 rintro e w2 ⟨g2,rfl,_,h1,h2⟩
 have hs:=HS.out.on h2
 have hn2:=H1.out.on h2
 have HB2:=Lib.hid (HB1.out.trans (h2.mono HB1.out.size))
 have H2:=Lib.hid h1
 clear h1 h2 HB1
 go_wp2_with fail
 refine (qY5 hs hn2 H2.out H0.out KN.out KM.out).mono ?_
 rintro e w3 ⟨rfl,h1,h2⟩
 have H3:=Lib.hid h1
 have HB3:=Lib.hid (HB2.out.trans (h2.below (Nat.le_refl _) HB2.out.size))
 clear h1 h2 hs hn2
 go_wp2
 go_ret
 exact ⟨_,rfl,Nat.le_refl _,H3.out,HB3.out⟩
theorem divInt_inv (x:Rat):Rat.divInt x.den x.num=x⁻¹:=(Rat.inv_def x).symm
set_option maxRecDepth 100000 in
theorem rInv_any {w:World} {b o c p:Nat} {x:Rat} (hz:Slot w b o 4) (hx:RatAt w c p x) (kx:OkR x) (h0:x≠0) :
  Calls Tryz.prog 125 #[.pointer (some ⟨b,o,none⟩),.pointer (some ⟨c,p,none⟩)] w fun e w'=>e=.returned (.pointer (some ⟨b,o,none⟩))∧RatAt w' b o x⁻¹∧Touch w w' b o 4:=by
 have HX:=Lib.hid hx
 have HZ:=Lib.hid hz
 have KX:=Lib.hid kx
 have HN0:Hid (x.num≠0):=fun h=>h0 (Rat.num_eq_zero.1 h)
 clear hx hz kx h0
 go_enter Tryz.func125,Tryz.ntmps125
 go_wp2
 refine qK3 6 (GC w.heap.size w [2]) (fun γ wq _ wr=>GE w.heap.size [] γ wq wr) (fun i γ wq v=>match i with
   | 0=>v=.pointer (some ⟨b,o,none⟩)
   | 1=>v=.pointer (some ⟨c,p,none⟩)
   | 2=>VD ((x).den:Int) wq v
   | 3=>v=.pointer (some ⟨c,p,none⟩)
   | 4=>v=.pointer (some ⟨c,p,none⟩)
   | 5=>v=.pointer (some ⟨c,p,none⟩)
   | _=>True) (by kernel_rfl) (by kernel_rfl) (by kernel_rfl) (GC.start _ (Nat.le_refl _)) ?_ ⟨?_,?_,?_,?_,?_,?_,trivial⟩ ?_
 · intro i γ w1 k xq w2 v hC hC2 hE hk hi hV
   match i with
   | 0=>exact hV
   | 1=>exact hV
   | 2=>exact VD.stable 2 hV hC hE hi rfl
   | 3=>exact hV
   | 4=>exact hV
   | 5=>exact hV
   | _+6=>trivial
 · intro a' γ w' hag hC hk hd K hK
   have e0:a'.tmps.getD 0 undef=.pointer (some ⟨b,o,none⟩):=hag 0 rfl
   go_step
   exact hK _ _ (hC.step 0 _ rfl (Below.refl _ _)) (GE.refl _ _ _ _) rfl
 · intro a' γ w' hag hC hk hd K hK
   have e1:a'.tmps.getD 1 undef=.pointer (some ⟨c,p,none⟩):=hag 1 rfl
   go_step
   exact hK _ _ (hC.step 1 _ rfl (Below.refl _ _)) (GE.refl _ _ _ _) rfl
 · intro a' γ w' hag hC hk hd K hK
   have e6:a'.tmps.getD 6 undef=.pointer (some ⟨c,p,none⟩):=hd.1.2
   have hx:=HX.out.on hC.below
   go_step
   refine (zQ3 hx).mono ?_
   rintro e w2 ⟨g,j,rfl,h1,h2,h3⟩
   exact hK _ _ (hC.own 2 _ _ h2 h1.lt (h3.imp (fun e=>by rw [e]; exact HX.out.lt) id)) (GE.below _ _ h2) ⟨_,_,rfl,h1⟩
 · intro a' γ w' hag hC hk hd K hK
   have e1:a'.tmps.getD 1 undef=.pointer (some ⟨c,p,none⟩):=hag 1 rfl
   go_step
   exact hK _ _ (hC.step 3 _ rfl (Below.refl _ _)) (GE.refl _ _ _ _) rfl
 · intro a' γ w' hag hC hk hd K hK
   have e8:a'.tmps.getD 8 undef=.pointer (some ⟨c,p,none⟩):=hd.1.2
   go_step
   exact hK _ _ (hC.step 4 _ rfl (Below.refl _ _)) (GE.refl _ _ _ _) rfl
 · intro a' γ w' hag hC hk hd K hK
   have e9:a'.tmps.getD 9 undef=.pointer (some ⟨c,p,none⟩):=hd.1.2
   go_step
   exact hK _ _ (hC.step 5 _ rfl (Below.refl _ _)) (GE.refl _ _ _ _) rfl
 · intro γ u w' hC hgh hall
   obtain ⟨u0,u1,u2,u3,u4,u5,_⟩:=hall
   have u0:u 0=.pointer (some ⟨b,o,none⟩):=u0
   have u1:u 1=.pointer (some ⟨c,p,none⟩):=u1
   obtain ⟨g7,i7,eu2,h7⟩:=u2
   have u2:u 2=.pointer (some ⟨g7,i7,none⟩):=eu2
   have u3:u 3=.pointer (some ⟨c,p,none⟩):=u3
   have u4:u 4=.pointer (some ⟨c,p,none⟩):=u4
   have u5:u 5=.pointer (some ⟨c,p,none⟩):=u5
   simp only [qZ7,List.take_succ_cons,List.take_zero,Act.put,List.setIfInBounds_toArray,List.set_cons_succ,List.set_cons_zero,Nat.zero_add,Nat.reduceAdd,u0,u1,u2,u3,u4,u5]
   clear u0 u1 u2 u3 u4 u5
   have HC:=Lib.hid hC.below
   have H7:=Lib.hid h7
   have hz2:=HZ.out.on HC.out
   have hx2:=HX.out.on HC.out
   clear hC h7
   go_wp2_with fail
   refine (qY5 hz2 H7.out hx2.num HN0.out KX.out.den KX.out.num).mono ?_
   rintro e w3 ⟨rfl,h1,h2⟩
   rw [divInt_inv] at h1
   have H1:=Lib.hid h1
   have HT:=Lib.hid ((Touch.of_below HC.out b o 4).trans h2)
   clear h1 h2 hz2 hx2
   go_wp2
   go_ret
   exact ⟨rfl,H1.out,HT.out⟩
set_option maxRecDepth 100000 in
theorem rNeg_any {w:World} {b o c p:Nat} {x:Rat} (hz:Slot w b o 4) (hx:RatAt w c p x) :
  Calls Tryz.prog 276 #[.pointer (some ⟨b,o,none⟩),.pointer (some ⟨c,p,none⟩)] w fun e w'=>e=.returned (.pointer (some ⟨b,o,none⟩))∧RatAt w' b o (-x)∧Touch w w' b o 4:=by
 have HX:=Lib.hid hx
 have HZ:=Lib.hid hz
 clear hx hz
 go_enter Tryz.func276,Tryz.ntmps276
 go_wp2_with fail
 refine (rSet_any HZ.out HX.out).mono ?_
 rintro e w1 ⟨rfl,h1,h2⟩
 have H1:=Lib.hid h1
 have H2:=Lib.hid h2
 clear h1 h2
 go_wp2
 refine qK3 6 (GC w1.heap.size w1 []) (fun γ wq _ wr=>GE w1.heap.size [] γ wq wr) (fun i γ wq v=>match i with
   | 0=>v=.pointer (some ⟨b,o,none⟩)
   | 1=>v=.pointer (some ⟨b,o,none⟩)
   | 2=>v=.pointer (some ⟨b,o,none⟩)
   | 3=>v=.pointer (some ⟨b,o,none⟩)
   | 4=>v=.pointer (some ⟨b,o,none⟩)
   | 5=>v=.pointer (some ⟨b,o,none⟩)
   | _=>True) (by kernel_rfl) (by kernel_rfl) (by kernel_rfl) (GC.start _ (Nat.le_refl _)) ?_ ⟨?_,?_,?_,?_,?_,?_,trivial⟩ ?_
 · intro i γ w1 k xq w2 v hC hC2 hE hk hi hV
   match i with
   | 0=>exact hV
   | 1=>exact hV
   | 2=>exact hV
   | 3=>exact hV
   | 4=>exact hV
   | 5=>exact hV
   | _+6=>trivial
 · intro a' γ w' hag hC hk hd K hK
   have e0:a'.tmps.getD 0 undef=.pointer (some ⟨b,o,none⟩):=hag 0 rfl
   go_step
   exact hK _ _ (hC.step 0 _ rfl (Below.refl _ _)) (GE.refl _ _ _ _) rfl
 · intro a' γ w' hag hC hk hd K hK
   have e8:a'.tmps.getD 8 undef=.pointer (some ⟨b,o,none⟩):=hd.1.2
   go_step
   exact hK _ _ (hC.step 1 _ rfl (Below.refl _ _)) (GE.refl _ _ _ _) rfl
 · intro a' γ w' hag hC hk hd K hK
   have e9:a'.tmps.getD 9 undef=.pointer (some ⟨b,o,none⟩):=hd.1.2
   go_step
   exact hK _ _ (hC.step 2 _ rfl (Below.refl _ _)) (GE.refl _ _ _ _) rfl
 · intro a' γ w' hag hC hk hd K hK
   have e0:a'.tmps.getD 0 undef=.pointer (some ⟨b,o,none⟩):=hag 0 rfl
   go_step
   exact hK _ _ (hC.step 3 _ rfl (Below.refl _ _)) (GE.refl _ _ _ _) rfl
 · intro a' γ w' hag hC hk hd K hK
   have e11:a'.tmps.getD 11 undef=.pointer (some ⟨b,o,none⟩):=hd.1.2
   go_step
   exact hK _ _ (hC.step 4 _ rfl (Below.refl _ _)) (GE.refl _ _ _ _) rfl
 · intro a' γ w' hag hC hk hd K hK
   have e12:a'.tmps.getD 12 undef=.pointer (some ⟨b,o,none⟩):=hd.1.2
   go_step
   exact hK _ _ (hC.step 5 _ rfl (Below.refl _ _)) (GE.refl _ _ _ _) rfl
 · intro γ u w' hC hgh hall
   obtain ⟨u0,u1,u2,u3,u4,u5,_⟩:=hall
   have u0:u 0=.pointer (some ⟨b,o,none⟩):=u0
   have u1:u 1=.pointer (some ⟨b,o,none⟩):=u1
   have u2:u 2=.pointer (some ⟨b,o,none⟩):=u2
   have u3:u 3=.pointer (some ⟨b,o,none⟩):=u3
   have u4:u 4=.pointer (some ⟨b,o,none⟩):=u4
   have u5:u 5=.pointer (some ⟨b,o,none⟩):=u5
   simp only [qZ7,List.take_succ_cons,List.take_zero,Act.put,List.setIfInBounds_toArray,List.set_cons_succ,List.set_cons_zero,Nat.zero_add,Nat.reduceAdd,u0,u1,u2,u3,u4,u5]
   clear u0 u1 u2 u3 u4 u5
   have HC:=Lib.hid hC.below
   have hx2:=H1.out.on HC.out
   clear hC
   go_wp2_with fail
   refine (neg_any hx2.num.slot hx2.num).mono ?_
   rintro e w3 ⟨rfl,h3,h4⟩
   have HT:Hid (Touch w w3 b o 4):=H2.out.trans ((Touch.of_below HC.out b o 4).trans (h4.mono (Nat.le_refl _) (by omega)))
   have HR:Hid (RatAt w3 b o (-x)):=by
    obtain ⟨k1,k2,dd,k3,k4⟩:=hx2
    refine ⟨k1.touch h4,by rw [Rat.neg_num]; exact h3,dd,k3.touch k2.slot h4 (.inr (.inr (Nat.le_refl _))),by rw [Rat.neg_den]; exact k4⟩
   clear h3 h4 hx2
   go_wp2
   go_ret
   exact ⟨rfl,HR.out,HT.out⟩
set_option maxHeartbeats 1600000 in
set_option maxRecDepth 100000 in
theorem rat_any {w0:World} (b c:Bool) (s t:ByteArray) (hs:s.size≤4294967296) (ht:t.size≤4294967296) (h0:qJ6 c t≠0) (k1:Okn (qJ6 b s)) (k2:Okn (qJ6 c t)) :
  Calls Tryz.prog 119 #[.agg #[.bool b,.string s,.bool c,.string t]] w0 fun e w'=>∃ g,e=.returned (.pointer (some ⟨g,0,none⟩))∧w0.heap.size≤g∧RatAt w' g 0 (Rat.divInt (qJ6 b s) (qJ6 c t))∧Below w0.heap.size w0 w':=by
 have HS:=Lib.hid hs
 have HT:=Lib.hid ht
 have H0:=Lib.hid h0
 have K1:=Lib.hid k1
 have K2:=Lib.hid k2
 obtain ⟨B,hB⟩:∃ B,B=w0.heap.size:=⟨_,rfl⟩
 have HB:=Lib.hid hB
 have HW:Hid (Below B w0 (w0.alloc (.cells #[.bool b,.string s,.bool c,.string t] 25))):=by rw [hB]; exact qZ4 _ _
 have HBX:=Lib.hid (BoxAt.new w0 #[.bool b,.string s,.bool c,.string t] 25)
 clear hs ht h0 k1 k2 hB
 go_enter Tryz.func119,Tryz.ntmps119
 go_wp2
 refine qZ2 7 (fun w'=>Below B w0 w'∧BoxAt w' w0.heap.size #[.bool b,.string s,.bool c,.string t] 25) (fun w w'=>Below w.heap.size w w') (fun i w v=>match i with
   | 0=>∃ g,v=.pointer (some ⟨g,0,none⟩)∧B≤g∧Slot w g 0 4
   | 1=>v=.pointer (some ⟨w0.heap.size,0,none⟩)
   | 2=>v=.agg #[.bool b,.string s]
   | 3=>∃ g,v=.pointer (some ⟨g,0,none⟩)∧B≤g∧IntAt w g 0 (qJ6 b s)
   | 4=>v=.pointer (some ⟨w0.heap.size,2,none⟩)
   | 5=>v=.agg #[.bool c,.string t]
   | _=>∃ g,v=.pointer (some ⟨g,0,none⟩)∧B≤g∧IntAt w g 0 (qJ6 c t)) (by kernel_rfl) (by kernel_rfl) (by kernel_rfl) ⟨HW.out.drew,HBX.out⟩ (fun _ _=>(Below.refl _ _)) ?_ ⟨?_,?_,?_,?_,?_,?_,?_,trivial⟩ ?_
 · intro i w1 w2 v hC hC2 hE hV
   match i with
   | 0=>obtain ⟨g,e,hb,h⟩:=hV; exact ⟨g,e,hb,h.on hE⟩
   | 1=>exact hV
   | 2=>exact hV
   | 3=>obtain ⟨g,e,hb,h⟩:=hV; exact ⟨g,e,hb,h.on hE⟩
   | 4=>exact hV
   | 5=>exact hV
   | _+6=>obtain ⟨g,e,hb,h⟩:=hV; exact ⟨g,e,hb,h.on hE⟩
 · intro a' w' hag hC hd K hK
   have hb:=qZ4 w' (.cells #[.bool false,.slice none 0 0,.bool false,.slice none 0 0] 163)
   have HK:=Lib.hid (hK (.pointer (some ⟨w'.heap.size,0,none⟩)) _ ⟨hC.1.trans (hb.mono (by have:=hC.1.size; have:=HB.out; omega)),hC.2.on hb⟩ hb ⟨_,rfl,by have:=hC.1.size; have:=HB.out; omega,(RatAt.new w').slot⟩)
   clear hb hK hC
   go_step
   exact HK.out
 · intro a' w' hag hC hd K hK
   have e1:a'.tmps.getD 1 undef=.pointer (some ⟨w0.heap.size,0,none⟩):=hag 1 rfl
   go_step
   exact hK _ _ hC ((Below.refl _ _)) rfl
 · intro a' w' hag hC hd K hK
   have e4:a'.tmps.getD 4 undef=.pointer (some ⟨w0.heap.size,0,none⟩):=hd.1
   have hc0:=hC.2.cell 0 (.bool b) rfl
   have hc1:=hC.2.cell 1 (.string s) rfl
   have HK:=Lib.hid (hK (.agg #[.bool b,.string s]) _ hC (Below.refl _ _) rfl)
   clear hK hC
   go_step
   exact HK.out
 · intro a' w' hag hC hd K hK
   have e5:a'.tmps.getD 5 undef=.agg #[.bool b,.string s]:=hd.1
   go_step
   refine (number_any b s HS.out).mono ?_
   rintro e w2 ⟨g,rfl,hg,h1,h2⟩
   have hsz:B≤w'.heap.size:=by have:=hC.1.size; have:=HB.out; omega
   exact hK _ _ ⟨hC.1.trans (h2.mono hsz),hC.2.on h2⟩ h2 ⟨_,rfl,Nat.le_trans hsz hg,h1⟩
 · intro a' w' hag hC hd K hK
   have e1:a'.tmps.getD 1 undef=.pointer (some ⟨w0.heap.size,0,none⟩):=hag 1 rfl
   go_step
   exact hK _ _ hC ((Below.refl _ _)) rfl
 · intro a' w' hag hC hd K hK
   have e7:a'.tmps.getD 7 undef=.pointer (some ⟨w0.heap.size,2,none⟩):=hd.1
   have hc0:=hC.2.cell 2 (.bool c) rfl
   have hc1:=hC.2.cell 3 (.string t) rfl
   have HK:=Lib.hid (hK (.agg #[.bool c,.string t]) _ hC (Below.refl _ _) rfl)
   clear hK hC
   go_step
   exact HK.out
 · intro a' w' hag hC hd K hK
   have e8:a'.tmps.getD 8 undef=.agg #[.bool c,.string t]:=hd.1
   go_step
   refine (number_any c t HT.out).mono ?_
   rintro e w2 ⟨g,rfl,hg,h1,h2⟩
   have hsz:B≤w'.heap.size:=by have:=hC.1.size; have:=HB.out; omega
   exact hK _ _ ⟨hC.1.trans (h2.mono hsz),hC.2.on h2⟩ h2 ⟨_,rfl,Nat.le_trans hsz hg,h1⟩
 · intro u w' hC hall
   obtain ⟨u0,u1,u2,u3,u4,u5,u6,_⟩:=hall
   obtain ⟨g3,eu0,hb3,h3⟩:=u0
   have u0:u 0=.pointer (some ⟨g3,0,none⟩):=eu0
   have u1:u 1=.pointer (some ⟨w0.heap.size,0,none⟩):=u1
   have u2:u 2=.agg #[.bool b,.string s]:=u2
   obtain ⟨g6,eu3,hb6,h6⟩:=u3
   have u3:u 3=.pointer (some ⟨g6,0,none⟩):=eu3
   have u4:u 4=.pointer (some ⟨w0.heap.size,2,none⟩):=u4
   have u5:u 5=.agg #[.bool c,.string t]:=u5
   obtain ⟨g9,eu6,hb9,h9⟩:=u6
   have u6:u 6=.pointer (some ⟨g9,0,none⟩):=eu6
   simp only [qZ7,List.take_succ_cons,List.take_zero,Act.put,List.setIfInBounds_toArray,List.set_cons_succ,List.set_cons_zero,Nat.zero_add,Nat.reduceAdd,u0,u1,u2,u3,u4,u5,u6]
   clear u0 u1 u2 u3 u4 u5 u6
   have HC:=Lib.hid hC.1
   have H3:=Lib.hid h3
   have H6:=Lib.hid h6
   have H9:=Lib.hid h9
   clear hC h3 h6 h9
   go_wp2_with fail
   refine (qY5 H3.out H6.out H9.out H0.out K1.out K2.out).mono ?_
   rintro e w3 ⟨rfl,h1,h2⟩
   have H1:=Lib.hid h1
   have HE:=Lib.hid (HC.out.trans (h2.below hb3 (by have:=HC.out.size; have:=HB.out; omega)))
   clear h1 h2
   go_wp2
   go_ret
   exact ⟨_,rfl,by rw [← HB.out]; exact hb3,H1.out,by rw [← HB.out]; exact HE.out⟩
theorem wholeV_nat (d:Nat):qZ9 (d:Int)=.agg #[.bool false,.string (mag d)]:=by
 unfold qZ9
 rw [show decide ((d:Int)<0)=false by simp,Int.natAbs_natCast]
theorem back_agg {w:World} {b o:Nat} {n:Int} (hx:IntAt w b o n) (hn:Okn n) :
  Calls Tryz.prog 121 #[.pointer (some ⟨b,o,none⟩)] w fun e w'=>∃ p s,e=.returned (.agg #[.bool p,.string s])∧Hid (p=decide (n<0))∧Hid (s=mag n.natAbs)∧Below w.heap.size w w' :=
 (back_any hx hn).mono fun e w' h=>⟨_,_,h.1,rfl,rfl,h.2⟩
set_option maxRecDepth 100000 in
theorem told_any {w:World} {b o:Nat} {q:Rat} (hx:RatAt w b o q) (hq:OkR q) :
  Calls Tryz.prog 261 #[.pointer (some ⟨b,o,none⟩)] w fun e w'=>∃ p s t,e=.returned (.agg #[.bool p,.string s,.bool false,.string t])∧Hid (p=decide (q.num<0))∧Hid (s=mag q.num.natAbs)∧Hid (t=mag q.den)∧Below w.heap.size w w':=by
 have HB:=Lib.hid (qZ4 w (.cells #[.bool false,.string ⟨#[]⟩,.bool false,.string ⟨#[]⟩] 25))
 have HC:=Lib.hid (BoxAt.new w #[.bool false,.string ⟨#[]⟩,.bool false,.string ⟨#[]⟩] 25)
 have HX:=Lib.hid (hx.on HB.out)
 have HQ:=Lib.hid hq
 clear hx hq
 go_enter Tryz.func261,Tryz.ntmps261
 go_wp2_with fail
 refine (rNum_any HX.out).mono ?_
 rintro e w1 ⟨g1,rfl,hg1,h1,hb1⟩
 have HB1:=Lib.hid hb1
 have H1:=Lib.hid h1
 clear h1 hb1
 go_wp2_with fail
 refine (back_agg H1.out HQ.out.num).mono ?_
 rintro e w2 ⟨p1,s1,rfl,hp1,hs1,hb2⟩
 have HB2:=Lib.hid (HB1.out.trans (hb2.mono HB1.out.size))
 clear hb2
 go_wp2_with fail
 refine (rDenom_any (HX.out.on HB2.out)).mono ?_
 rintro e w3 ⟨g3,rfl,hg3,h3,hb3⟩
 have HB3:=Lib.hid (HB2.out.trans (hb3.mono HB2.out.size))
 have H3:=Lib.hid h3
 clear h3 hb3
 go_wp2_with fail
 refine (back_agg H3.out HQ.out.den).mono ?_
 rintro e w4 ⟨p2,s2,rfl,hp2,hs2,hb4⟩
 have HB4:=Lib.hid (HB3.out.trans (hb4.mono HB3.out.size))
 clear hb4
 have hc:=fun i v h=>(HC.out.on HB4.out).cell i v h
 have hc0:=hc 0 _ rfl
 have hc1:=hc 1 _ rfl
 have hc2:=hc 2 _ rfl
 have hc3:=hc 3 _ rfl
 have hf:=(HC.out.on HB4.out).frozen
 have HK:=Lib.hid (((((HC.out.on HB4.out).set 0 (.bool p1)).set 1 (.string s1)).set 2 (.bool p2)).set 3 (.string s2))
 have HW:=Lib.hid (HB.out.trans (HB4.out.mono HB.out.size))
 clear hc
 go_wp2
 have h0:=HK.out.cell 0 (.bool p1) rfl
 have h1:=HK.out.cell 1 (.string s1) rfl
 have h2:=HK.out.cell 2 (.bool p2) rfl
 have h3:=HK.out.cell 3 (.string s2) rfl
 have hp:p2=false:=by rw [hp2.out]; simp
 subst hp
 exact bodyPost_ret (v:=.agg #[.bool p1,.string s1,.bool false,.string s2]) (by simp [results,Tryz.results261,go_sem,h0,h1,h2,h3]) rfl ⟨_,_,_,rfl,hp1,hs1,by rw [Hid,hs2.out,Int.natAbs_natCast],(((HW.out.setCell (Nat.le_refl _) _).setCell (Nat.le_refl _) _).setCell (Nat.le_refl _) _).setCell (Nat.le_refl _) _⟩
theorem shortF_any {w:World} (b:Bool) (s:ByteArray) (p:Bool) (hp:decide (s.size≤1024)=p) :
  Calls Tryz.prog 259 #[.agg #[.bool b,.string s]] w fun e w'=>e=.returned (.bool p)∧Below w.heap.size w w':=by
 have HB:=Lib.hid (qZ4 w (.cells #[.bool b,.string s] 23))
 have hq:decide ((s.size:Int)≤1024)=p:=by
  rw [← hp]
  exact decide_eq_decide.2 (by omega)
 clear hp
 go_enter Tryz.func259,Tryz.ntmps259
 go_wp2
 go_ret
 refine ⟨?_,HB.out⟩
 rw [← hq]
 rfl
def Fit (q:Rat):Prop:=(mag q.num.natAbs).size≤1024∧(mag q.den).size≤1024
theorem zW2 {n:Nat} {k:Nat} (h:(mag n).size≤k):(dig n).length≤(k+3)/4:=by
 refine qX8 _ _ ?_
 rw [mag_size_le,p256] at h
 rw [p32]
 exact Nat.lt_of_lt_of_le h (Nat.pow_le_pow_right (by decide) (by omega))
theorem okn_size {n:Int} (h:(mag n.natAbs).size≤16384):Okn n:=by
 have:=zW2 h
 unfold Okn
 omega
theorem mag_mono {a b k:Nat} (h:a≤b) (hk:(mag b).size≤k):(mag a).size≤k:=by
 rw [mag_size_le] at *
 omega
theorem num_le (n d:Int) (hd:d≠0):(Rat.divInt n d).num.natAbs≤n.natAbs:=by
 rw [Rat.num_divInt]
 refine Nat.le_trans (Int.natAbs_ediv_le_natAbs _ _) ?_
 rw [Int.natAbs_mul]
 have h:d.sign.natAbs≤1:=by
  rcases Int.lt_trichotomy d 0 with h | h | h
  · rw [Int.sign_eq_neg_one_of_neg h]; decide
  · exact absurd h hd
  · rw [Int.sign_eq_one_of_pos h]; decide
 calc d.sign.natAbs*n.natAbs≤1*n.natAbs:=Nat.mul_le_mul_right _ h
  _=n.natAbs:=Nat.one_mul _
theorem den_le (n d:Int) (hd:d≠0):(Rat.divInt n d).den≤d.natAbs:=by
 rw [Rat.den_divInt,if_neg hd]
 exact Nat.div_le_self _ _
theorem okR_divInt {n d:Int} (hd:d≠0) (h1:(mag n.natAbs).size≤16384) (h2:(mag d.natAbs).size≤16384):OkR (Rat.divInt n d):=by
 have k1:=zW2 (mag_mono (num_le n d hd) h1)
 have k2:=zW2 (mag_mono (den_le n d hd) h2)
 refine ⟨?_,?_⟩
 · show (dig _).length≤_
   omega
 · show (dig (((Rat.divInt n d).den:Int)).natAbs).length≤_
   rw [Int.natAbs_natCast]
   omega
def zZ5 (v:Value):Prop:=∃ q,Fit q∧v=fracV q
theorem agg4 {b c b' c':Bool} {s t s' t':ByteArray} (h:(Value.agg #[.bool b,.string s,.bool c,.string t])=.agg #[.bool b',.string s',.bool c',.string t']):b=b'∧s=s'∧c=c'∧t=t':=by
 injection h with h
 injection h with h
 injection h with h1 h
 injection h with h2 h
 injection h with h3 h
 injection h with h4 _
 injection h1 with h1
 injection h2 with h2
 injection h3 with h3
 injection h4 with h4
 exact ⟨h1,h2,h3,h4⟩
theorem qW3 {b c:Bool} {s t:ByteArray} (h:zZ5 (.agg #[.bool b,.string s,.bool c,.string t])) :
  qH8 b s∧qH8 c t∧s.size≤1024∧t.size≤1024∧0<(qJ6 c t)∧(Value.agg #[.bool b,.string s,.bool c,.string t])=fracV (Rat.divInt (qJ6 b s) (qJ6 c t)):=by
 obtain ⟨q,hf,hv⟩:=h
 obtain ⟨rfl,rfl,rfl,rfl⟩:=agg4 hv
 have h1:=ok_wholeV q.num (Nat.le_trans hf.1 (by decide))
 have h2:=ok_wholeV (q.den:Int) (by rw [Int.natAbs_natCast]; exact Nat.le_trans hf.2 (by decide))
 have e:decide ((q.den:Int)<0)=false:=by simp
 rw [e,Int.natAbs_natCast] at h2
 have n1:=zV6 q.num
 have n2:=zV6 (q.den:Int)
 rw [e,Int.natAbs_natCast] at n2
 refine ⟨h1,h2,hf.1,hf.2,?_,?_⟩
 · rw [n2]; have:=q.den_pos; omega
 · rw [n1,n2,Rat.num_divInt_den]
   rfl
theorem isFrac_of {b c:Bool} {s t:ByteArray} (h1:s.size≤1024) (h2:t.size≤1024) {q:Rat} (h:(Value.agg #[.bool b,.string s,.bool c,.string t])=fracV q):zZ5 (.agg #[.bool b,.string s,.bool c,.string t]):=by
 refine ⟨q,?_,h⟩
 obtain ⟨rfl,rfl,rfl,rfl⟩:=agg4 h
 exact ⟨h1,h2⟩
theorem toList_inj {a b:ByteArray}:a.toList=b.toList↔a=b:=by
 constructor
 · intro h
   rw [ByteArray.toList_eq,ByteArray.toList_eq] at h
   obtain ⟨⟨x⟩⟩:=a
   obtain ⟨⟨y⟩⟩:=b
   have:x=y:=h
   rw [this]
 · rintro rfl; rfl
theorem may_key {q0:Rat} {b c p:Bool} {s t s' t':ByteArray} (h0:q0=Rat.divInt (qJ6 b s) (qJ6 c t)) (hp:p=decide (q0.num<0)) (hs:s'=mag q0.num.natAbs) (ht:t'=mag q0.den) (h3:s.size≤1024) (h4:t.size≤1024) :
  ((p==b&&s'.toList==s.toList)&&(false==c&&t'.toList==t.toList))=true↔zZ5 (.agg #[.bool b,.string s,.bool c,.string t]):=by
 have e0:fracV q0=.agg #[.bool p,.string s',.bool false,.string t']:=by rw [hp,hs,ht]; rfl
 simp only [Bool.and_eq_true,beq_iff_eq,toList_inj]
 constructor
 · rintro ⟨⟨rfl,rfl⟩,rfl,rfl⟩
   exact isFrac_of h3 h4 e0.symm
 · intro h
   obtain ⟨_,_,_,_,_,h6⟩:=qW3 h
   rw [← h0,e0] at h6
   obtain ⟨h1,h2,h3,h4⟩:=agg4 h6
   exact ⟨⟨h1.symm,h2.symm⟩,h3.symm,h4.symm⟩
theorem eqtree {α:Type} (p b c:Bool) (s s' t t':ByteArray) (X Y:α):(if p=b then if s.toList=s'.toList then if c=true then Y else if t.toList=t'.toList then X else Y else Y else Y)=if ((p==b&&s.toList==s'.toList)&&(false==c&&t.toList==t'.toList))=true then X else Y:=by
 by_cases h1:p=b<;>by_cases h2:s.toList=s'.toList<;>cases c<;>by_cases h4:t.toList=t'.toList<;>simp [h1,h2,h4]
def MayPost (w0:World) (v:Value) (e:Ending) (w':World):Prop:=∃ r,e=.returned (.bool r)∧(r=true↔zZ5 v)∧Below w0.heap.size w0 w'
set_option maxHeartbeats 1600000 in
set_option maxRecDepth 100000 in
theorem May_any {w0:World} (b c:Bool) (s t:ByteArray) (hs:s.size≤maxLen) (ht:t.size≤maxLen) :
  Calls Tryz.prog 117 #[.agg #[.bool b,.string s,.bool c,.string t]] w0 (MayPost w0 (.agg #[.bool b,.string s,.bool c,.string t])):=by
 have HS:=Lib.hid hs
 have HT:=Lib.hid ht
 have HW0:=Lib.hid (qZ4 w0 (.cells #[.bool b,.string s,.bool c,.string t] 25))
 have HX0:=Lib.hid (BoxAt.new w0 #[.bool b,.string s,.bool c,.string t] 25)
 clear hs ht
 have hc0:=HX0.out.cell 0 (.bool b) rfl
 have hc1:=HX0.out.cell 1 (.string s) rfl
 have hc2:=HX0.out.cell 2 (.bool c) rfl
 have hc3:=HX0.out.cell 3 (.string t) rfl
 go_enter Tryz.func117,Tryz.ntmps117
 by_cases h1:qH8 b s
 · have H1:=Lib.hid h1
   clear h1
   go_wp2_with fail
   refine (zX2 b s HS.out).mono ?_
   rintro e w1 ⟨k,rfl,hk,hb⟩
   obtain rfl:k=0:=hk.elim (fun h=>h.1) (fun h=>absurd H1.out h.2)
   clear hk
   have HX1:=Lib.hid (HX0.out.on hb)
   have HW1:=Lib.hid (HW0.out.trans (hb.mono HW0.out.size))
   clear hb hc0 hc1 hc2 hc3
   have hc0:=HX1.out.cell 0 (.bool b) rfl
   have hc1:=HX1.out.cell 1 (.string s) rfl
   have hc2:=HX1.out.cell 2 (.bool c) rfl
   have hc3:=HX1.out.cell 3 (.string t) rfl
   by_cases h2:qH8 c t
   · have H2:=Lib.hid h2
     clear h2
     go_wp2_with fail
     refine (zX2 c t HT.out).mono ?_
     rintro e w2 ⟨k,rfl,hk,hb⟩
     obtain rfl:k=0:=hk.elim (fun h=>h.1) (fun h=>absurd H2.out h.2)
     clear hk
     have HX2:=Lib.hid (HX1.out.on hb)
     have HW2:=Lib.hid (HW1.out.trans (hb.mono HW1.out.size))
     clear hb hc0 hc1 hc2 hc3
     have hc0:=HX2.out.cell 0 (.bool b) rfl
     have hc1:=HX2.out.cell 1 (.string s) rfl
     have hc2:=HX2.out.cell 2 (.bool c) rfl
     have hc3:=HX2.out.cell 3 (.string t) rfl
     by_cases h3:s.size≤1024
     · have H3:=Lib.hid h3
       go_wp2_with fail
       refine (shortF_any b s true (by simpa using h3)).mono ?_
       rintro e w3 ⟨rfl,hb⟩
       have HX3:=Lib.hid (HX2.out.on hb)
       have HW3:=Lib.hid (HW2.out.trans (hb.mono HW2.out.size))
       clear hb hc0 hc1 hc2 hc3
       have hc0:=HX3.out.cell 0 (.bool b) rfl
       have hc1:=HX3.out.cell 1 (.string s) rfl
       have hc2:=HX3.out.cell 2 (.bool c) rfl
       have hc3:=HX3.out.cell 3 (.string t) rfl
       clear h3
       by_cases h4:t.size≤1024
       · have H4:=Lib.hid h4
         go_wp2_with fail
         refine (shortF_any c t true (by simpa using h4)).mono ?_
         rintro e w4 ⟨rfl,hb⟩
         have HX4:=Lib.hid (HX3.out.on hb)
         have HW4:=Lib.hid (HW3.out.trans (hb.mono HW3.out.size))
         clear hb hc0 hc1 hc2 hc3
         have hc0:=HX4.out.cell 0 (.bool b) rfl
         have hc1:=HX4.out.cell 1 (.string s) rfl
         have hc2:=HX4.out.cell 2 (.bool c) rfl
         have hc3:=HX4.out.cell 3 (.string t) rfl
         clear h4
         have hn:=numOf_ok H2.out
         by_cases h5:0<qJ6 c t
         · have hsg:(qJ6 c t).sign=1:=Int.sign_eq_one_of_pos h5
           have H5:=Lib.hid h5
           have HSG:=Lib.hid hsg
           clear h5 hsg hn
           go_wp2_with fail
           refine (WSign_any c t HT.out).mono ?_
           rintro e w5 ⟨k,rfl,hk,hb⟩
           obtain rfl:k=1:=hk.elim (fun h=>h.2.trans HSG.out) (fun h=>absurd H2.out h.1)
           clear hk
           have HX5:=Lib.hid (HX4.out.on hb)
           have HW5:=Lib.hid (HW4.out.trans (hb.mono HW4.out.size))
           clear hb hc0 hc1 hc2 hc3
           have hc0:=HX5.out.cell 0 (.bool b) rfl
           have hc1:=HX5.out.cell 1 (.string s) rfl
           have hc2:=HX5.out.cell 2 (.bool c) rfl
           have hc3:=HX5.out.cell 3 (.string t) rfl
           obtain ⟨q0,hq0⟩:∃ q0,q0=Rat.divInt (qJ6 b s) (qJ6 c t):=⟨_,rfl⟩
           have H0:Hid (qJ6 c t≠0):=by have:=H5.out; unfold Hid; omega
           have hz1:(mag (qJ6 b s).natAbs).size≤16384:=by rw [(numOf_ok H1.out).2.1]; exact Nat.le_trans H3.out (by decide)
           have hz2:(mag (qJ6 c t).natAbs).size≤16384:=by rw [(numOf_ok H2.out).2.1]; exact Nat.le_trans H4.out (by decide)
           have KQ:Hid (OkR q0):=by rw [hq0]; exact okR_divInt H0.out hz1 hz2
           have K1:Hid (Okn (qJ6 b s)):=okn_size hz1
           have K2:Hid (Okn (qJ6 c t)):=okn_size hz2
           have HQ0:=Lib.hid hq0
           clear hz1 hz2 hq0 hc0 hc1 hc2 hc3
           go_wp2
           refine qZ2 5 (fun w'=>Below w0.heap.size w0 w'∧BoxAt w' w0.heap.size #[.bool b,.string s,.bool c,.string t] 25) (fun w w'=>Below w.heap.size w w') (fun i w v=>match i with
             | 0=>v=.agg #[.bool b,.string s,.bool c,.string t]
             | 1=>∃ g,v=.pointer (some ⟨g,0,none⟩)∧RatAt w g 0 q0
             | 2=>∃ p s' t',v=.agg #[.bool p,.string s',.bool false,.string t']∧Hid (p=decide (q0.num<0))∧Hid (s'=mag q0.num.natAbs)∧Hid (t'=mag q0.den)
             | 3=>v=.agg #[.bool b,.string s,.bool c,.string t]
             | _=>∃ r,v=.bool r∧Hid (r=true↔zZ5 (.agg #[.bool b,.string s,.bool c,.string t]))) (by kernel_rfl) (by kernel_rfl) (by kernel_rfl) ⟨HW5.out.drew,HX5.out⟩ (fun _ _=>(Below.refl _ _)) ?_ ⟨?_,?_,?_,?_,?_,trivial⟩ ?_
           · intro i w1 w2 v hC hC2 hE hV
             match i with
             | 0=>exact hV
             | 1=>obtain ⟨g,e,h⟩:=hV; exact ⟨g,e,h.on hE⟩
             | 2=>exact hV
             | 3=>exact hV
             | _+4=>exact hV
           · intro a' w' hag hC hd K hK
             have e1:a'.tmps.getD 1 undef=.pointer (some ⟨w0.heap.size,0,none⟩):=hag 1 rfl
             have hc0:=hC.2.cell 0 (.bool b) rfl
             have hc1:=hC.2.cell 1 (.string s) rfl
             have hc2:=hC.2.cell 2 (.bool c) rfl
             have hc3:=hC.2.cell 3 (.string t) rfl
             have HK:=Lib.hid (hK (.agg #[.bool b,.string s,.bool c,.string t]) _ hC (Below.refl _ _) rfl)
             clear hK hC
             go_step
             exact HK.out
           · intro a' w' hag hC hd K hK
             have e31:a'.tmps.getD 31 undef=.agg #[.bool b,.string s,.bool c,.string t]:=hd.1
             go_step
             refine (rat_any b c s t (Nat.le_trans H3.out (by decide)) (Nat.le_trans H4.out (by decide)) H0.out K1.out K2.out).mono ?_
             rintro e w2 ⟨g,rfl,hg,h1,h2⟩
             exact hK _ _ ⟨hC.1.trans (h2.mono hC.1.size),hC.2.on h2⟩ h2 ⟨_,rfl,by rw [HQ0.out]; exact h1⟩
           · intro a' w' hag hC hd K hK
             obtain ⟨g32,e32,h32⟩:=hd.1
             have e32:a'.tmps.getD 32 undef=.pointer (some ⟨g32,0,none⟩):=e32
             go_step
             refine (told_any h32 KQ.out).mono ?_
             rintro e w2 ⟨p,s',t',rfl,h1,h2,h3,hb⟩
             exact hK _ _ ⟨hC.1.trans (hb.mono hC.1.size),hC.2.on hb⟩ hb ⟨p,s',t',rfl,h1,h2,h3⟩
           · intro a' w' hag hC hd K hK
             have e1:a'.tmps.getD 1 undef=.pointer (some ⟨w0.heap.size,0,none⟩):=hag 1 rfl
             have hc0:=hC.2.cell 0 (.bool b) rfl
             have hc1:=hC.2.cell 1 (.string s) rfl
             have hc2:=hC.2.cell 2 (.bool c) rfl
             have hc3:=hC.2.cell 3 (.string t) rfl
             have HK:=Lib.hid (hK (.agg #[.bool b,.string s,.bool c,.string t]) _ hC (Below.refl _ _) rfl)
             clear hK hC
             go_step
             exact HK.out
           · intro a' w' hag hC hd K hK
             obtain ⟨p33,s33,t33,e33,hp33,hs33,ht33⟩:=hd.1
             have e33:a'.tmps.getD 33 undef=.agg #[.bool p33,.string s33,.bool false,.string t33]:=e33
             have e34:a'.tmps.getD 34 undef=.agg #[.bool b,.string s,.bool c,.string t]:=hd.2.1
             have key:=may_key HQ0.out hp33.out hs33.out ht33.out H3.out H4.out
             have HK:=Lib.hid (hK _ _ hC (Below.refl _ _) ⟨_,rfl,key⟩)
             clear hK hC key
             go_step
             rw [eqtree]
             generalize ((p33==b&&s33.toList==s.toList)&&(false==c&&t33.toList==t.toList))=r at HK ⊢
             cases r
             · exact HK.out
             · exact HK.out
           · intro u w' hC hall
             obtain ⟨u0,u1,u2,u3,u4,_⟩:=hall
             have u0:u 0=.agg #[.bool b,.string s,.bool c,.string t]:=u0
             have u3:u 3=.agg #[.bool b,.string s,.bool c,.string t]:=u3
             obtain ⟨r35,eu4,h35⟩:=u4
             have u4:u 4=.bool r35:=eu4
             simp only [qZ7,List.take_succ_cons,List.take_zero,Act.put,List.setIfInBounds_toArray,List.set_cons_succ,List.set_cons_zero,Nat.zero_add,Nat.reduceAdd,u0,u3,u4]
             clear u0 u3 u4
             have HC:=Lib.hid hC.1
             clear hC
             go_wp2
             go_ret
             exact ⟨_,rfl,h35.out,HC.out⟩
         · obtain ⟨k5,hk5⟩:∃ k5,k5=(qJ6 c t).sign:=⟨_,rfl⟩
           have hk0:k5≤0:=by rw [hk5]; exact Int.sign_nonpos_iff.2 (by omega)
           have HK5:=Lib.hid hk5
           have H5:=Lib.hid h5
           clear hk5 h5 hn
           go_wp2_with fail
           refine (WSign_any c t HT.out).mono ?_
           rintro e w5 ⟨k,rfl,hk,hb⟩
           obtain rfl:k=k5:=hk.elim (fun h=>h.2.trans HK5.out.symm) (fun h=>absurd H2.out h.1)
           clear hk
           have HX5:=Lib.hid (HX4.out.on hb)
           have HW5:=Lib.hid (HW4.out.trans (hb.mono HW4.out.size))
           clear hb hc0 hc1 hc2 hc3
           have hc0:=HX5.out.cell 0 (.bool b) rfl
           have hc1:=HX5.out.cell 1 (.string s) rfl
           have hc2:=HX5.out.cell 2 (.bool c) rfl
           have hc3:=HX5.out.cell 3 (.string t) rfl
           go_wp2
           go_ret
           exact ⟨false,rfl,⟨fun h=>Bool.noConfusion h,fun h=>absurd (qW3 h).2.2.2.2.1 (Int.not_lt.2 H5.out)⟩,HW5.out⟩
       · have H4:=Lib.hid h4
         go_wp2_with fail
         refine (shortF_any c t false (by simpa using h4)).mono ?_
         rintro e w4 ⟨rfl,hb⟩
         have HX4:=Lib.hid (HX3.out.on hb)
         have HW4:=Lib.hid (HW3.out.trans (hb.mono HW3.out.size))
         clear hb hc0 hc1 hc2 hc3
         have hc0:=HX4.out.cell 0 (.bool b) rfl
         have hc1:=HX4.out.cell 1 (.string s) rfl
         have hc2:=HX4.out.cell 2 (.bool c) rfl
         have hc3:=HX4.out.cell 3 (.string t) rfl
         clear h4
         go_wp2
         go_ret
         exact ⟨false,rfl,⟨fun h=>Bool.noConfusion h,fun h=>absurd (qW3 h).2.2.2.1 H4.out⟩,HW4.out⟩
     · have H3:=Lib.hid h3
       go_wp2_with fail
       refine (shortF_any b s false (by simpa using h3)).mono ?_
       rintro e w3 ⟨rfl,hb⟩
       have HX3:=Lib.hid (HX2.out.on hb)
       have HW3:=Lib.hid (HW2.out.trans (hb.mono HW2.out.size))
       clear hb hc0 hc1 hc2 hc3
       have hc0:=HX3.out.cell 0 (.bool b) rfl
       have hc1:=HX3.out.cell 1 (.string s) rfl
       have hc2:=HX3.out.cell 2 (.bool c) rfl
       have hc3:=HX3.out.cell 3 (.string t) rfl
       clear h3
       go_wp2
       go_ret
       exact ⟨false,rfl,⟨fun h=>Bool.noConfusion h,fun h=>absurd (qW3 h).2.2.1 H3.out⟩,HW3.out⟩
   · have H2:=Lib.hid h2
     clear h2
     go_wp2_with fail
     refine (zX2 c t HT.out).mono ?_
     rintro e w2 ⟨k,rfl,hk,hb⟩
     obtain rfl:k=2:=hk.elim (fun h=>absurd h.2 H2.out) (fun h=>h.1)
     clear hk
     have HX2:=Lib.hid (HX1.out.on hb)
     have HW2:=Lib.hid (HW1.out.trans (hb.mono HW1.out.size))
     clear hb hc0 hc1 hc2 hc3
     have hc0:=HX2.out.cell 0 (.bool b) rfl
     have hc1:=HX2.out.cell 1 (.string s) rfl
     have hc2:=HX2.out.cell 2 (.bool c) rfl
     have hc3:=HX2.out.cell 3 (.string t) rfl
     go_wp2
     go_ret
     exact ⟨false,rfl,⟨fun h=>Bool.noConfusion h,fun h=>absurd (qW3 h).2.1 H2.out⟩,HW2.out⟩
 · have H1:=Lib.hid h1
   clear h1
   go_wp2_with fail
   refine (zX2 b s HS.out).mono ?_
   rintro e w1 ⟨k,rfl,hk,hb⟩
   obtain rfl:k=2:=hk.elim (fun h=>absurd h.2 H1.out) (fun h=>h.1)
   clear hk
   have HX1:=Lib.hid (HX0.out.on hb)
   have HW1:=Lib.hid (HW0.out.trans (hb.mono HW0.out.size))
   clear hb hc0 hc1 hc2 hc3
   have hc0:=HX1.out.cell 0 (.bool b) rfl
   have hc1:=HX1.out.cell 1 (.string s) rfl
   have hc2:=HX1.out.cell 2 (.bool c) rfl
   have hc3:=HX1.out.cell 3 (.string t) rfl
   go_wp2
   go_ret
   exact ⟨false,rfl,⟨fun h=>Bool.noConfusion h,fun h=>absurd (qW3 h).1 H1.out⟩,HW1.out⟩
def sz (n:Int):Nat:=(mag n.natAbs).size
theorem sz_le {n:Int} {k:Nat}:sz n≤k↔n.natAbs<256^k:=mag_size_le
theorem qY9 {a b:Int} {i j:Nat} (h:sz a≤i) (k:sz b≤j):sz (a*b)≤i+j:=by
 rw [sz_le] at *
 rw [Int.natAbs_mul,Nat.pow_add]
 exact Nat.mul_lt_mul'' h k
theorem sz_add {a b:Int} {i:Nat} (h:sz a≤i) (k:sz b≤i):sz (a+b)≤i+1:=by
 rw [sz_le] at *
 rw [Nat.pow_succ]
 have:=Int.natAbs_add_le a b
 omega
theorem sz_neg (a:Int):sz (-a)=sz a:=by
 unfold sz; rw [Int.natAbs_neg]
theorem sz_sub {a b:Int} {i:Nat} (h:sz a≤i) (k:sz b≤i):sz (a-b)≤i+1:=by
 rw [Int.sub_eq_add_neg]
 exact sz_add h (by rw [sz_neg]; exact k)
theorem sz_nat (d:Nat):sz (d:Int)=(mag d).size:=by unfold sz; rw [Int.natAbs_natCast]
def Sz (k:Nat) (q:Rat):Prop:=sz q.num≤k∧sz (q.den:Int)≤k
theorem Sz.mono {i k:Nat} {q:Rat} (h:Sz i q) (hk:i≤k):Sz k q:=⟨Nat.le_trans h.1 hk,Nat.le_trans h.2 hk⟩
theorem Sz.fit {k:Nat} {q:Rat} (h:Sz k q) (hk:k≤1024):Fit q:=⟨Nat.le_trans h.1 hk,by have:=h.2; rw [sz_nat] at this; omega⟩
theorem Sz.neg {k:Nat} {x:Rat} (h:Sz k x):Sz k (-x):=⟨by rw [show (-x).num = -x.num from rfl,sz_neg]; exact h.1,h.2⟩
theorem Fit.sz {q:Rat} (h:Fit q):Sz 1024 q:=⟨h.1,by rw [sz_nat]; exact h.2⟩
theorem qH0 {n d:Int} {k:Nat} (hd:d≠0) (h1:sz n≤k) (h2:sz d≤k):Sz k (Rat.divInt n d) :=
 ⟨mag_mono (num_le n d hd) h1,by rw [sz_nat]; exact mag_mono (den_le n d hd) h2⟩
theorem Sz.mul {i j:Nat} {x y:Rat} (h:Sz i x) (k:Sz j y):Sz (i+j) (x*y):=by
 rw [← divInt_mul]
 exact qH0 (Int.mul_ne_zero (qH9 x) (qH9 y)) (qY9 h.1 k.1) (qY9 h.2 k.2)
theorem Sz.div {i j:Nat} {x y:Rat} (h:Sz i x) (k:Sz j y) (h0:y≠0):Sz (i+j) (x/y):=by
 rw [← divInt_quo]
 exact qH0 (Int.mul_ne_zero (qH9 x) fun e=>h0 (Rat.num_eq_zero.1 e)) (qY9 h.1 k.2) (qY9 h.2 k.1)
theorem Sz.add {i j:Nat} {x y:Rat} (h:Sz i x) (k:Sz j y):Sz (i+j+1) (x+y):=by
 rw [← divInt_Add]
 refine qH0 (Int.mul_ne_zero (qH9 x) (qH9 y)) (sz_add (qY9 h.1 k.2) ?_) (Nat.le_succ_of_le (qY9 h.2 k.2))
 rw [Nat.add_comm]
 exact qY9 k.1 h.2
theorem Sz.sub {i j:Nat} {x y:Rat} (h:Sz i x) (k:Sz j y):Sz (i+j+1) (x-y):=by
 rw [← divInt_Sub]
 refine qH0 (Int.mul_ne_zero (qH9 x) (qH9 y)) (sz_sub (qY9 h.1 k.2) ?_) (Nat.le_succ_of_le (qY9 h.2 k.2))
 rw [Nat.add_comm]
 exact qY9 k.1 h.2
theorem Sz.okR2 {k:Nat} {q:Rat} (h:Sz k q) (hk:k≤4000000000):OkR q:=by
 have k1:=zW2 (Nat.le_trans h.1 hk)
 have k2:=zW2 (Nat.le_trans h.2 hk)
 refine ⟨?_,?_⟩
 · show (dig _).length≤_
   omega
 · show (dig ((q.den:Int)).natAbs).length≤_
   omega
theorem Sz.inv {k:Nat} {x:Rat} (h:Sz k x) (h0:x≠0):Sz k x⁻¹:=by
 rw [← divInt_inv]
 exact qH0 (fun e=>h0 (Rat.num_eq_zero.1 e)) h.2 h.1
structure GQ where
 re:Rat
 im:Rat
theorem GQ.ext2 {z w:GQ} (h:z.re=w.re) (k:z.im=w.im):z=w:=by cases z; cases w; cases h; cases k; rfl
def gadd (z w:GQ):GQ:=⟨z.re+w.re,z.im+w.im⟩
def gsub (z w:GQ):GQ:=⟨z.re-w.re,z.im-w.im⟩
def gmul (z w:GQ):GQ:=⟨z.re*w.re-z.im*w.im,z.re*w.im+z.im*w.re⟩
def gneg (z:GQ):GQ:=⟨-z.re,-z.im⟩
def qW6 (z:GQ):GQ:=⟨z.re,-z.im⟩
def qW1 (z:GQ):Rat:=z.re*z.re+z.im*z.im
def gscale (z:GQ) (x:Rat):GQ:=⟨z.re*x,z.im*x⟩
def gdiv (z w:GQ):GQ:=gscale (gmul z (qW6 w)) (qW1 w)⁻¹
def gint (n m:Int):GQ:=⟨Rat.divInt n 1,Rat.divInt m 1⟩
def qQ6 (z:GQ):Bool:=decide (z.re=0)&&decide (z.im=0)
theorem gzero_iff {z:GQ}:qQ6 z=true↔z.re=0∧z.im=0:=by simp [qQ6]
theorem rsq_nonneg (x:Rat):0≤x*x:=by
 rcases (Rat.le_total:(0:Rat)≤x∨x≤0) with h | h
 · exact Rat.mul_nonneg h h
 · have:=Rat.mul_nonneg (Rat.neg_le_neg h) (Rat.neg_le_neg h)
   rwa [Rat.neg_mul,Rat.mul_neg,Rat.neg_neg] at this
theorem zY5 {z:GQ} (h:qQ6 z=false):qW1 z≠0:=by
 intro e
 have h1:=rsq_nonneg z.re
 have h2:=rsq_nonneg z.im
 have h3:z.re*z.re=0∧z.im*z.im=0:=by unfold qW1 at e; constructor<;>grind
 have h4:z.re=0:=(Rat.mul_eq_zero.1 h3.1).elim id id
 have h5:z.im=0:=(Rat.mul_eq_zero.1 h3.2).elim id id
 have:=gzero_iff.2 ⟨h4,h5⟩
 rw [h] at this
 cases this
def GSz (k:Nat) (z:GQ):Prop:=Sz k z.re∧Sz k z.im
theorem GSz.mono {i k:Nat} {z:GQ} (h:GSz i z) (hk:i≤k):GSz k z:=⟨h.1.mono hk,h.2.mono hk⟩
theorem GSz.add {i j:Nat} {z w:GQ} (h:GSz i z) (k:GSz j w):GSz (i+j+1) (gadd z w):=⟨h.1.add k.1,h.2.add k.2⟩
theorem GSz.sub {i j:Nat} {z w:GQ} (h:GSz i z) (k:GSz j w):GSz (i+j+1) (gsub z w):=⟨h.1.sub k.1,h.2.sub k.2⟩
theorem GSz.mul {i j:Nat} {z w:GQ} (h:GSz i z) (k:GSz j w):GSz (i+j+(i+j)+1) (gmul z w):=⟨(h.1.mul k.1).sub (h.2.mul k.2),(h.1.mul k.2).add (h.2.mul k.1)⟩
theorem GSz.neg {i:Nat} {z:GQ} (h:GSz i z):GSz i (gneg z):=⟨h.1.neg,h.2.neg⟩
theorem GSz.conj {i:Nat} {z:GQ} (h:GSz i z):GSz i (qW6 z):=⟨h.1,h.2.neg⟩
theorem GSz.norm {i:Nat} {z:GQ} (h:GSz i z):Sz (i+i+(i+i)+1) (qW1 z):=(h.1.mul h.1).add (h.2.mul h.2)
theorem GSz.scale {i j:Nat} {z:GQ} {x:Rat} (h:GSz i z) (k:Sz j x):GSz (i+j) (gscale z x):=⟨h.1.mul k,h.2.mul k⟩
theorem GSz.div {i j:Nat} {z w:GQ} (h:GSz i z) (k:GSz j w) (h0:qQ6 w=false):GSz (i+j+(i+j)+1+(j+j+(j+j)+1)) (gdiv z w):=(h.mul k.conj).scale (k.norm.inv (zY5 h0))
theorem zX5 {n:Int} (h:n.natAbs<256):sz n≤1:=by rw [sz_le]; exact h
theorem Sz.small {n:Int} (h:n.natAbs<256):Sz 1 (Rat.divInt n 1):=qH0 (by decide) (zX5 h) (zX5 (by decide))
theorem GSz.int {n m:Int} (h:n.natAbs<256) (k:m.natAbs<256):GSz 1 (gint n m):=⟨Sz.small h,Sz.small k⟩
end Go.Proofs.YtbepimnlleilfaaGreat
end
