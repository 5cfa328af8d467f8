/- Arith, Ops, Near, Nst, Txt, GsT, Yd, G1, Known, LawA, LawF, F1A, TxR, TxB, TxS, StE. -/
import Derived.Test.YthkpghhoffihmaaGreatDoorNk10
set_option linter.unnecessarySimpa false
set_option linter.unusedVariables false
set_option linter.unusedSimpArgs false
section
namespace Go.Proofs.YthkpghhoffihmaaGreatDoor
open Go.RowKit
set_option maxHeartbeats 3200000 in
set_option maxRecDepth 100000 in
theorem both_add {w0:World} (b c b2 c2:Bool) (s t s2 t2:ByteArray) (hs:s.size≤maxLen) (ht:t.size≤maxLen) (hs2:s2.size≤maxLen) (ht2:t2.size≤maxLen) :
  Calls Tryz.prog 224 #[.agg #[.bool b,.string s,.bool c,.string t],.agg #[.bool b2,.string s2,.bool c2,.string t2],.func (.func 135) #[] #[]] w0 (BinPost (fun x y=>x+y) (.agg #[.bool b,.string s,.bool c,.string t]) (.agg #[.bool b2,.string s2,.bool c2,.string t2]) w0):=by
 have HS:=Lib.hid hs
 have HT:=Lib.hid ht
 have HS2:=Lib.hid hs2
 have HT2:=Lib.hid ht2
 have HW0:=Lib.hid (Two.new w0 #[.bool b,.string s,.bool c,.string t] #[.bool b2,.string s2,.bool c2,.string t2])
 clear hs ht hs2 ht2
 go_enter Tryz.func224,Tryz.ntmps224
 go_wp2_with fail
 refine (May_any b c s t HS.out HT.out).mono ?_
 rintro e w1 ⟨r,rfl,hr,hb⟩
 have HW1:=Lib.hid (HW0.out.on hb)
 have HR:=Lib.hid hr
 clear hb hr
 cases r
 · have hp0:=HW1.out.place.cell 0 _ rfl
   have hp1:=HW1.out.place.cell 1 _ rfl
   have hp2:=HW1.out.place.cell 2 _ rfl
   have hp3:=HW1.out.place.cell 3 _ rfl
   have hf:=HW1.out.place.frozen
   go_wp2
   have hk:=HW1.out.place.put4 (.bool false) (.string ⟨#[]⟩) (.bool false) (.string ⟨#[]⟩)
   have k0:=hk.cell 0 _ rfl
   have k1:=hk.cell 1 _ rfl
   have k2:=hk.cell 2 _ rfl
   have k3:=hk.cell 3 _ rfl
   exact bodyPost_ret (v:=.tuple #[frac0,.int .i64 2]) (by simp [results,Tryz.results224,go_sem,k0,k1,k2,k3,frac0]) rfl ⟨_,_,rfl,.inr ⟨.inl fun h=>Bool.noConfusion (HR.out.2 h),rfl,rfl⟩,below_put4 HW1.out.below (by omega) _ _ _ _⟩
 have hc0:=HW1.out.two.cell 0 (.bool b2) rfl
 have hc1:=HW1.out.two.cell 1 (.string s2) rfl
 have hc2:=HW1.out.two.cell 2 (.bool c2) rfl
 have hc3:=HW1.out.two.cell 3 (.string t2) rfl
 go_wp2_with fail
 refine (May_any b2 c2 s2 t2 HS2.out HT2.out).mono ?_
 rintro e w2 ⟨r,rfl,hr,hb⟩
 have HW2:=Lib.hid (HW1.out.on hb)
 have HR2:=Lib.hid hr
 clear hb hr hc0 hc1 hc2 hc3
 cases r
 · have hp0:=HW2.out.place.cell 0 _ rfl
   have hp1:=HW2.out.place.cell 1 _ rfl
   have hp2:=HW2.out.place.cell 2 _ rfl
   have hp3:=HW2.out.place.cell 3 _ rfl
   have hf:=HW2.out.place.frozen
   go_wp2
   have hk:=HW2.out.place.put4 (.bool false) (.string ⟨#[]⟩) (.bool false) (.string ⟨#[]⟩)
   have k0:=hk.cell 0 _ rfl
   have k1:=hk.cell 1 _ rfl
   have k2:=hk.cell 2 _ rfl
   have k3:=hk.cell 3 _ rfl
   exact bodyPost_ret (v:=.tuple #[frac0,.int .i64 2]) (by simp [results,Tryz.results224,go_sem,k0,k1,k2,k3,frac0]) rfl ⟨_,_,rfl,.inr ⟨.inr fun h=>Bool.noConfusion (HR2.out.2 h),rfl,rfl⟩,below_put4 HW2.out.below (by omega) _ _ _ _⟩
 obtain ⟨x,hx⟩:=parts_of (by first | exact HR.out.1 rfl | exact HR.out.1 trivial)
 obtain ⟨y,hy⟩:=parts_of (by first | exact HR2.out.1 rfl | exact HR2.out.1 trivial)
 have HX:=Lib.hid hx
 have HY:=Lib.hid hy
 clear hx hy HR HR2 HW1 HW0
 go_wp2
 have hok:=(HX.out.fit.sz.add HY.out.fit.sz).okR (by decide)
 have HOK:=Lib.hid hok
 clear hok
 refine wp_region_ghost 10 (GC w2.heap.size w2 [1,3,5]) (fun γ wq _ wr=>GE w2.heap.size [(1,6)] γ wq wr) (fun i γ wq v=>match i with
   | 0=>v=.func (.func 135) #[] #[]
   | 1=>VP w2.heap.size wq v
   | 2=>v=.agg #[.bool b,.string s,.bool c,.string t]
   | 3=>VQ (x) wq v
   | 4=>v=.agg #[.bool b2,.string s2,.bool c2,.string t2]
   | 5=>VQ (y) wq v
   | 6=>VR w2.heap.size 1 ((fun x y=>x+y) x y) γ wq v
   | 7=>v=.tuple #[ansV ((fun x y=>x+y) x y),.int .i64 (ansK ((fun x y=>x+y) x y))]
   | 8=>v=ansV ((fun x y=>x+y) x y)
   | 9=>v=.int .i64 (ansK ((fun x y=>x+y) x y))
   | _=>True) (by kernel_rfl) (by kernel_rfl) (by kernel_rfl) (GC.start _ (Nat.le_refl _)) ?_ ⟨?_,?_,?_,?_,?_,?_,?_,?_,?_,?_,trivial⟩ ?_
 · intro i γ w1 k xq w2 v hC hC2 hE hk hi hV
   match i with
   | 0=>exact hV
   | 1=>exact VP.stable hV hE
   | 2=>exact hV
   | 3=>exact VQ.stable 3 hV hC hE hi rfl
   | 4=>exact hV
   | 5=>exact VQ.stable 5 hV hC hE hi rfl
   | 6=>exact VR.stable 6 k hV hC hE hk hi rfl
   | 7=>exact hV
   | 8=>exact hV
   | 9=>exact hV
   | _+10=>trivial
 · intro a' γ w' hag hC hk hd K hK
   have e2:a'.tmps.getD 2 undef=.func (.func 135) #[] #[]:=hag 2 rfl
   go_step
   exact hK _ _ (hC.step 0 _ rfl (Below.refl _ _)) (GE.refl _ _ _ _) rfl
 · intro a' γ w' hag hC hk hd K hK
   have hb:=below_new w' (.cells #[.bool false,.slice none 0 0,.bool false,.slice none 0 0] 179)
   have HK:=Lib.hid (hK (.pointer (some ⟨w'.heap.size,0,none⟩)) _ (hC.own 1 _ _ hb (RatAt.new w').slot.lt (.inr (Nat.le_refl _))) (GE.below _ _ hb) ⟨_,rfl,hC.size,(RatAt.new w').slot⟩)
   clear hb hK hC
   go_step
   exact HK.out
 · intro a' γ w' hag hC hk hd K hK
   have e3:a'.tmps.getD 3 undef=.pointer (some ⟨w0.heap.size,0,none⟩):=hag 3 rfl
   have hT:=HW2.out.on hC.below
   have hc0:=hT.one.cell 0 (.bool b) rfl
   have hc1:=hT.one.cell 1 (.string s) rfl
   have hc2:=hT.one.cell 2 (.bool c) rfl
   have hc3:=hT.one.cell 3 (.string t) rfl
   have HK:=Lib.hid (hK (.agg #[.bool b,.string s,.bool c,.string t]) _ (hC.step 2 _ rfl (Below.refl _ _)) (GE.refl _ _ _ _) rfl)
   clear hK hC hT
   go_step
   exact HK.out
 · intro a' γ w' hag hC hk hd K hK
   have e19:a'.tmps.getD 19 undef=.agg #[.bool b,.string s,.bool c,.string t]:=hd.1.2
   have hx:=Lib.hid (rat_frac (w:=w') HX.out)
   go_step
   refine hx.out.mono ?_
   rintro e w2 ⟨g,rfl,h3,h1,h2⟩
   exact hK _ _ (hC.own 3 _ _ h2 h1.slot.lt (.inr h3)) (GE.below _ _ h2) ⟨_,rfl,h1⟩
 · intro a' γ w' hag hC hk hd K hK
   have e4:a'.tmps.getD 4 undef=.pointer (some ⟨w0.heap.size+1,0,none⟩):=hag 4 rfl
   have hT:=HW2.out.on hC.below
   have hc0:=hT.two.cell 0 (.bool b2) rfl
   have hc1:=hT.two.cell 1 (.string s2) rfl
   have hc2:=hT.two.cell 2 (.bool c2) rfl
   have hc3:=hT.two.cell 3 (.string t2) rfl
   have HK:=Lib.hid (hK (.agg #[.bool b2,.string s2,.bool c2,.string t2]) _ (hC.step 4 _ rfl (Below.refl _ _)) (GE.refl _ _ _ _) rfl)
   clear hK hC hT
   go_step
   exact HK.out
 · intro a' γ w' hag hC hk hd K hK
   have e21:a'.tmps.getD 21 undef=.agg #[.bool b2,.string s2,.bool c2,.string t2]:=hd.1.2
   have hx:=Lib.hid (rat_frac (w:=w') HY.out)
   go_step
   refine hx.out.mono ?_
   rintro e w2 ⟨g,rfl,h3,h1,h2⟩
   exact hK _ _ (hC.own 5 _ _ h2 h1.slot.lt (.inr h3)) (GE.below _ _ h2) ⟨_,rfl,h1⟩
 · intro a' γ w' hag hC hk hd K hK
   have e17:a'.tmps.getD 17 undef=.func (.func 135) #[] #[]:=hd.1.2
   have q18:VP w2.heap.size w' (a'.tmps.getD 18 undef):=hd.2.1.2
   have gg18:γ 1=some (a'.tmps.getD 18 undef):=hd.2.1.1
   obtain ⟨g18,e18,hb18,hs18⟩:=q18
   rw [e18] at gg18
   have e18:a'.tmps.getD 18 undef=.pointer (some ⟨g18,0,none⟩):=e18
   have q20:VQ (x) w' (a'.tmps.getD 20 undef):=hd.2.2.1.2
   have gg20:γ 3=some (a'.tmps.getD 20 undef):=hd.2.2.1.1
   obtain ⟨g20,e20,h20⟩:=q20
   rw [e20] at gg20
   have e20:a'.tmps.getD 20 undef=.pointer (some ⟨g20,0,none⟩):=e20
   have q22:VQ (y) w' (a'.tmps.getD 22 undef):=hd.2.2.2.1.2
   have gg22:γ 5=some (a'.tmps.getD 22 undef):=hd.2.2.2.1.1
   obtain ⟨g22,e22,h22⟩:=q22
   rw [e22] at gg22
   have e22:a'.tmps.getD 22 undef=.pointer (some ⟨g22,0,none⟩):=e22
   have hx:=Lib.hid (rAdd_any hs18 h20 h22 HX.out.fit.okR HY.out.fit.okR)
   go_step
   refine hx.out.mono ?_
   rintro e w2 ⟨rfl,h1,h2⟩
   exact hK _ _ (hC.step 6 _ rfl (h2.below hb18 hC.size)) (GE.write 1 6 rfl hs18 h2 gg18 hk hb18) ⟨_,rfl,upd_some gg18 hk,hb18,h1⟩
 · intro a' γ w' hag hC hk hd K hK
   have q23:VR w2.heap.size 1 ((fun x y=>x+y) x y) γ w' (a'.tmps.getD 23 undef):=hd.1.2
   have gg23:γ 6=some (a'.tmps.getD 23 undef):=hd.1.1
   obtain ⟨g23,e23,ga23,hb23,h23⟩:=q23
   rw [e23] at gg23
   have e23:a'.tmps.getD 23 undef=.pointer (some ⟨g23,0,none⟩):=e23
   have hx:=Lib.hid (answer_any h23 HOK.out)
   go_step
   refine hx.out.mono ?_
   rintro e w2 ⟨v,k,rfl,h1,h2⟩
   rw [(ans_eq h1).1,(ans_eq h1).2]
   exact hK _ _ (hC.step 7 _ rfl (h2.mono hC.size)) (GE.below _ _ h2) rfl
 · intro a' γ w' hag hC hk hd K hK
   have e24:a'.tmps.getD 24 undef=.tuple #[ansV ((fun x y=>x+y) x y),.int .i64 (ansK ((fun x y=>x+y) x y))]:=hd.1.2
   go_step
   exact hK _ _ (hC.step 8 _ rfl (Below.refl _ _)) (GE.refl _ _ _ _) rfl
 · intro a' γ w' hag hC hk hd K hK
   have e24:a'.tmps.getD 24 undef=.tuple #[ansV ((fun x y=>x+y) x y),.int .i64 (ansK ((fun x y=>x+y) x y))]:=hd.1.2
   go_step
   exact hK _ _ (hC.step 9 _ rfl (Below.refl _ _)) (GE.refl _ _ _ _) rfl
 · intro γ u w' hC hgh hall
   obtain ⟨u0,u1,u2,u3,u4,u5,u6,u7,u8,u9,_⟩:=hall
   have u0:u 0=.func (.func 135) #[] #[]:=u0
   obtain ⟨g18,eu1,hb18,hs18⟩:=u1
   have u1:u 1=.pointer (some ⟨g18,0,none⟩):=eu1
   have u2:u 2=.agg #[.bool b,.string s,.bool c,.string t]:=u2
   have u4:u 4=.agg #[.bool b2,.string s2,.bool c2,.string t2]:=u4
   have u7:u 7=.tuple #[ansV ((fun x y=>x+y) x y),.int .i64 (ansK ((fun x y=>x+y) x y))]:=u7
   have u8:u 8=ansV ((fun x y=>x+y) x y):=u8
   have u9:u 9=.int .i64 (ansK ((fun x y=>x+y) x y)):=u9
   simp only [fillR,List.take_succ_cons,List.take_zero,Act.put,List.setIfInBounds_toArray,List.set_cons_succ,List.set_cons_zero,Nat.zero_add,Nat.reduceAdd,u0,u1,u2,u4,u7,u8,u9]
   clear u0 u1 u2 u4 u7 u8 u9
   have HC:=Lib.hid (HW2.out.on hC.below)
   clear hC
   obtain ⟨pb,ps,pc,pt,hv⟩:=(ansV_ans ((fun x y=>x+y) x y)).agg
   have HA:=Lib.hid (ansV_ans ((fun x y=>x+y) x y))
   rw [hv] at HA ⊢
   generalize ansK ((fun x y=>x+y) x y)=k at HA ⊢
   clear hv
   have hp0:=HC.out.place.cell 0 _ rfl
   have hp1:=HC.out.place.cell 1 _ rfl
   have hp2:=HC.out.place.cell 2 _ rfl
   have hp3:=HC.out.place.cell 3 _ rfl
   have hf:=HC.out.place.frozen
   go_wp2
   have hk:=HC.out.place.put4 (.bool pb) (.string ps) (.bool pc) (.string pt)
   have k0:=hk.cell 0 _ rfl
   have k1:=hk.cell 1 _ rfl
   have k2:=hk.cell 2 _ rfl
   have k3:=hk.cell 3 _ rfl
   exact bodyPost_ret (v:=.tuple #[.agg #[.bool pb,.string ps,.bool pc,.string pt],.int .i64 k]) (by simp [results,Tryz.results224,go_sem,k0,k1,k2,k3]) rfl ⟨_,_,rfl,.inl ⟨x,y,HX.out.fit,HY.out.fit,HX.out.val,HY.out.val,HA.out⟩,below_put4 HC.out.below (by omega) _ _ _ _⟩
theorem fracV_num {b c:Bool} {s t:ByteArray} {x:Rat} (h:FracParts b s c t x):WholeOk b s∧numOf b s=x.num:=by
 have h1:=(isFrac_parts h.isFrac).1
 obtain ⟨rfl,rfl,_,_⟩:=agg4 h.val
 exact ⟨h1,numOf_mag _⟩
set_option maxHeartbeats 1600000 in
set_option maxRecDepth 100000 in
theorem FAdd_any {w0:World} (b c b2 c2:Bool) (s t s2 t2:ByteArray) (hs:s.size≤maxLen) (ht:t.size≤maxLen) (hs2:s2.size≤maxLen) (ht2:t2.size≤maxLen) :
  Calls Tryz.prog 101 #[.agg #[.bool b,.string s,.bool c,.string t],.agg #[.bool b2,.string s2,.bool c2,.string t2]] w0 (BinPost (fun x y=>x+y) (.agg #[.bool b,.string s,.bool c,.string t]) (.agg #[.bool b2,.string s2,.bool c2,.string t2]) w0):=by
 have HS:=Lib.hid hs
 have HT:=Lib.hid ht
 have HS2:=Lib.hid hs2
 have HT2:=Lib.hid ht2
 have HW0:=Lib.hid (Two.new w0 #[.bool b,.string s,.bool c,.string t] #[.bool b2,.string s2,.bool c2,.string t2])
 clear hs ht hs2 ht2
 go_enter Tryz.func101,Tryz.ntmps101
 go_wp2_with fail
 refine (both_add b c b2 c2 s t s2 t2 HS.out HT.out HS2.out HT2.out).mono ?_
 rintro e w1 ⟨v,k,rfl,ha,hb⟩
 obtain ⟨pb,ps,pc,pt,rfl⟩:=ha.agg
 have HA:=Lib.hid ha
 have HW1:=Lib.hid (HW0.out.on hb)
 clear ha hb
 have hp0:=HW1.out.place.cell 0 _ rfl
 have hp1:=HW1.out.place.cell 1 _ rfl
 have hp2:=HW1.out.place.cell 2 _ rfl
 have hp3:=HW1.out.place.cell 3 _ rfl
 have hf:=HW1.out.place.frozen
 go_wp2
 have hk:=HW1.out.place.put4 (.bool pb) (.string ps) (.bool pc) (.string pt)
 have k0:=hk.cell 0 _ rfl
 have k1:=hk.cell 1 _ rfl
 have k2:=hk.cell 2 _ rfl
 have k3:=hk.cell 3 _ rfl
 exact bodyPost_ret (v:=.tuple #[.agg #[.bool pb,.string ps,.bool pc,.string pt],.int .i64 k]) (by simp [results,Tryz.results101,go_sem,k0,k1,k2,k3]) rfl ⟨_,_,rfl,HA.out,below_put4 HW1.out.below (by omega) _ _ _ _⟩
theorem fracV_inj {x y:Rat} (h:fracV x=fracV y):x=y:=by
 obtain ⟨h1,h2,_,h4⟩:=agg4 h
 have e1:x.num=y.num:=sg_inj h1 (mag_inj h2)
 have e2:x.den=y.den:=mag_inj h4
 exact Rat.ext e1 e2
structure Uno (w0 w:World):Prop where
 below:Below w0.heap.size w0 w
 place:BoxAt w w0.heap.size #[.bool false,.string ⟨#[]⟩,.bool false,.string ⟨#[]⟩] 25
theorem Uno.new (w0:World):Uno w0 (w0.alloc (.cells #[.bool false,.string ⟨#[]⟩,.bool false,.string ⟨#[]⟩] 25)):=⟨below_new _ _,BoxAt.new _ _ _⟩
theorem Uno.on {w0 w w':World} (h:Uno w0 w) (k:Below w.heap.size w w'):Uno w0 w':=⟨h.below.trans (k.mono h.below.size),h.place.on k⟩
def SmallAns (n m:Int) (v:Value) (k:Int):Prop:=(m=0∧v=frac0∧k=5)∨(m≠0∧Ans (Rat.divInt n m) v k)
theorem sz_i64 {n:Int} (h : -9223372036854775808≤n∧n≤9223372036854775807):sz n≤8:=by
 rw [sz_le]
 have:n.natAbs≤9223372036854775808:=by omega
 exact Nat.lt_of_le_of_lt this (by decide)
theorem okn_i64 {n:Int} (h : -9223372036854775808≤n∧n≤9223372036854775807):Okn n:=okn_size (Nat.le_trans (sz_i64 h) (by decide))
set_option maxHeartbeats 1600000 in
set_option maxRecDepth 100000 in
theorem Small_any {w0:World} {n m:Int} (hn : -9223372036854775808≤n∧n≤9223372036854775807) (hm : -9223372036854775808≤m∧m≤9223372036854775807) :
  Calls Tryz.prog 100 #[.int .i64 n,.int .i64 m] w0 fun e w'=>∃ v k,e=.returned (.tuple #[v,.int .i64 k])∧SmallAns n m v k∧Below w0.heap.size w0 w':=by
 have HN:=Lib.hid hn
 have HM:=Lib.hid hm
 have HW0:=Lib.hid (Uno.new w0)
 clear hn hm
 have HP0:=Lib.hid HW0.out.place
 by_cases h0:m=0
 · subst h0
   go_enter Tryz.func100,Tryz.ntmps100
   go_wp2
   have hk:=HP0.out.put4 (.bool false) (.string ⟨#[]⟩) (.bool false) (.string ⟨#[]⟩)
   exact bodyPost_ret (v:=.tuple #[frac0,.int .i64 5]) (by simp [results,Tryz.results100,go_sem,frac0]) rfl ⟨_,_,rfl,.inl ⟨rfl,rfl,rfl⟩,HW0.out.below⟩
 · have hmm:(m==0)=false:=by rw [beq_eq_false_iff_ne]; exact h0
   have H0:=Lib.hid h0
   have HA:=Lib.hid (below_new (w0.alloc (.cells #[.bool false,.string ⟨#[]⟩,.bool false,.string ⟨#[]⟩] 25)) (.cells #[.bool false,.slice none 0 0,.bool false,.slice none 0 0] 179))
   have HW1:=Lib.hid (HW0.out.on HA.out)
   have HR1:=Lib.hid (RatAt.new (w0.alloc (.cells #[.bool false,.string ⟨#[]⟩,.bool false,.string ⟨#[]⟩] 25))).slot
   rw [size_alloc] at HR1
   clear h0
   go_enter Tryz.func100,Tryz.ntmps100
   go_wp2_with fail
   refine (NewInt_any HN.out).mono ?_
   rintro e w2 ⟨g1,rfl,_,h1,hb⟩
   have HW2:=Lib.hid (HW1.out.on hb)
   have HR2:=Lib.hid (HR1.out.on hb)
   have H1:=Lib.hid h1
   clear h1 hb
   go_wp2_with fail
   refine (NewInt_any HM.out).mono ?_
   rintro e w3 ⟨g2,rfl,_,h1,hb⟩
   have HW3:=Lib.hid (HW2.out.on hb)
   have HR3:=Lib.hid (HR2.out.on hb)
   have H13:=Lib.hid (H1.out.on hb)
   have H2:=Lib.hid h1
   clear h1 hb
   go_wp2_with fail
   refine (SetFrac_any HR3.out H13.out H2.out H0.out (okn_i64 HN.out) (okn_i64 HM.out)).mono ?_
   rintro e w4 ⟨rfl,h1,h2⟩
   have HB4:=Lib.hid (h2.below (B:=w0.heap.size+1) (Nat.le_refl _) HW3.out.place.lt)
   have HP4:Hid (BoxAt w4 w0.heap.size #[.bool false,.string ⟨#[]⟩,.bool false,.string ⟨#[]⟩] 25):=by
    have:=HW3.out.place
    unfold BoxAt at this
    unfold Hid BoxAt
    rw [HB4.out.block _ (by omega)]
    exact this
   have HW4:Hid (Uno w0 w4):=⟨HW3.out.below.trans (HB4.out.mono (by omega)),HP4.out⟩
   have HQ:=Lib.hid h1
   clear h1 h2
   go_wp2_with fail
   refine (answer_any HQ.out ((sz_divInt H0.out (sz_i64 HN.out) (sz_i64 HM.out)).okR (by decide))).mono ?_
   rintro e w5 ⟨v,k,rfl,ha,hb⟩
   obtain ⟨pb,ps,pc,pt,rfl⟩:=ha.agg
   have HA5:=Lib.hid ha
   have HW5:=Lib.hid (HW4.out.on hb)
   have HP5:=Lib.hid HW5.out.place
   clear ha hb
   have hp0:=HP5.out.cell 0 _ rfl
   have hp1:=HP5.out.cell 1 _ rfl
   have hp2:=HP5.out.cell 2 _ rfl
   have hp3:=HP5.out.cell 3 _ rfl
   have hf:=HP5.out.frozen
   go_wp2
   have hk:=HP5.out.put4 (.bool pb) (.string ps) (.bool pc) (.string pt)
   have k0:=hk.cell 0 _ rfl
   have k1:=hk.cell 1 _ rfl
   have k2:=hk.cell 2 _ rfl
   have k3:=hk.cell 3 _ rfl
   exact bodyPost_ret (v:=.tuple #[.agg #[.bool pb,.string ps,.bool pc,.string pt],.int .i64 k]) (by simp [results,Tryz.results100,go_sem,k0,k1,k2,k3]) rfl ⟨_,_,rfl,.inr ⟨H0.out,HA5.out⟩,below_put4 HW5.out.below (Nat.le_refl _) _ _ _ _⟩
set_option maxRecDepth 100000 in
theorem floor_any {w:World} {b o:Nat} {q:Rat} (hx:RatAt w b o q) (hq:OkR q) :
  Calls Tryz.prog 226 #[.pointer (some ⟨b,o,none⟩)] w fun e w'=>∃ g,e=.returned (.pointer (some ⟨g,0,none⟩))∧w.heap.size≤g∧IntAt w' g 0 (q.num/(q.den:Int))∧Below w.heap.size w w':=by
 have HA:=Lib.hid (below_new w (.cells #[.bool false,.slice none 0 0] 177))
 have HX:=Lib.hid (hx.on HA.out)
 have HS:=Lib.hid (IntAt.new w).slot
 have HQ:=Lib.hid hq
 clear hx hq
 go_enter Tryz.func226,Tryz.ntmps226
 go_wp2_with fail
 refine (rNum_any HX.out).mono ?_
 rintro e w1 ⟨g1,rfl,_,h1,hb⟩
 have HX1:=Lib.hid (HX.out.on hb)
 have HS1:=Lib.hid (HS.out.on hb)
 have HB1:=Lib.hid (HA.out.trans (hb.mono HA.out.size))
 have H1:=Lib.hid h1
 clear h1 hb
 go_wp2_with fail
 refine (rDenom_any HX1.out).mono ?_
 rintro e w2 ⟨g2,rfl,_,h1,hb⟩
 have HS2:=Lib.hid (HS1.out.on hb)
 have HB2:=Lib.hid (HB1.out.trans (hb.mono HB1.out.size))
 have H12:=Lib.hid (H1.out.on hb)
 have H2:=Lib.hid h1
 clear h1 hb
 go_wp2_with fail
 refine (Div_any HS2.out H12.out H2.out (den_ne q) HQ.out.num HQ.out.den).mono ?_
 rintro e w3 ⟨rfl,h1,h2⟩
 have H3:=Lib.hid h1
 have HB3:=Lib.hid (HB2.out.trans (h2.below (Nat.le_refl _) HB2.out.size))
 clear h1 h2
 go_wp2
 go_ret
 exact ⟨_,rfl,Nat.le_refl _,H3.out,HB3.out⟩
structure FW (w0 w:World) (v1:Array Value):Prop where
 below:Below w0.heap.size w0 w
 one:BoxAt w w0.heap.size v1 25
 place:BoxAt w (w0.heap.size+1) #[.bool false,.string ⟨#[]⟩] 23
theorem FW.new (w0:World) (v1:Array Value):FW w0 ((w0.alloc (.cells v1 25)).alloc (.cells #[.bool false,.string ⟨#[]⟩] 23)) v1:=by
 have b1:=below_new w0 (.cells v1 25)
 have b2:=below_new (w0.alloc (.cells v1 25)) (.cells #[.bool false,.string ⟨#[]⟩] 23)
 exact ⟨b1.trans (b2.mono (by simp)),(BoxAt.new w0 _ _).on b2,BoxAt.new_at _ _ (by simp)⟩
theorem FW.on {w0 w w':World} {v1:Array Value} (h:FW w0 w v1) (k:Below w.heap.size w w'):FW w0 w' v1 :=
 ⟨h.below.trans (k.mono h.below.size),h.one.on k,h.place.on k⟩
def flQ (q:Rat):Int:=q.num/(q.den:Int)
def nearQ (x:Rat):Int:=if ((flQ (x+Rat.divInt 1 2):Int):Rat)-x=Rat.divInt 1 2∧(flQ (x+Rat.divInt 1 2)).natAbs % 2=1 then flQ (x+Rat.divInt 1 2)-1 else flQ (x+Rat.divInt 1 2)
def NearAns (va v:Value) (k:Int):Prop:=(∃ x,Fit x∧va=fracV x∧v=wholeV (nearQ x)∧k=0)∨(¬ IsFrac va∧v=.agg #[.bool false,.string ⟨#[]⟩]∧k=2)
theorem cmpQ_zero {x y:Rat}:cmpQ x y=0↔x=y:=by
 unfold cmpQ
 constructor
 · intro h
   split at h
   · cases h
   · split at h
     · cases h
     · rename_i h1 h2
       exact Rat.le_antisymm (Rat.not_lt.1 h2) (Rat.not_lt.1 h1)
 · rintro rfl
   rw [if_neg (Rat.lt_irrefl),if_neg (Rat.lt_irrefl)]
theorem sz_flQ {q:Rat} {k:Nat} (h:Sz k q):sz (flQ q)≤k:=by
 have h1:=h.1
 rw [sz_le] at *
 exact Nat.lt_of_le_of_lt (Int.natAbs_ediv_le_natAbs _ _) h1
theorem sz_int {n:Int} {k:Nat} (h:sz n≤k) (hk:1≤k):Sz k (n:Rat):=by
 refine ⟨by rw [Rat.num_intCast]; exact h,?_⟩
 rw [Rat.den_intCast]
 exact Nat.le_trans (mag_size_le.2 (by decide:(1:Int).natAbs<256^1)) hk
theorem sz_half:Sz 1 (Rat.divInt 1 2):=sz_divInt (by decide) (sz_le.2 (by decide)) (sz_le.2 (by decide))
theorem FW.keep {w0 w w':World} {v1:Array Value} {g n:Nat} (h:FW w0 w v1) (hg:w0.heap.size+2≤g) (k:Touch w w' g 0 n):FW w0 w' v1:=by
 have key:∀ i cs T,i<w0.heap.size+2→BoxAt w i cs T→BoxAt w' i cs T:=by
  intro i cs T hi hb
  unfold BoxAt
  rw [k.block i hb.lt (by omega)]
  exact hb
 have hl:=h.place.lt
 exact ⟨h.below.trans (k.below (by omega) (by omega)),key _ _ _ (by omega) h.one,key _ _ _ (by omega) h.place⟩
set_option maxHeartbeats 3200000 in
set_option maxRecDepth 100000 in
theorem Nearest_any {w0:World} (b c:Bool) (s t:ByteArray) (hs:s.size≤maxLen) (ht:t.size≤maxLen) :
  Calls Tryz.prog 102 #[.agg #[.bool b,.string s,.bool c,.string t]] w0 fun e w'=>∃ v k,e=.returned (.tuple #[v,.int .i64 k])∧NearAns (.agg #[.bool b,.string s,.bool c,.string t]) v k∧Below w0.heap.size w0 w':=by
 have HS:=Lib.hid hs
 have HT:=Lib.hid ht
 have HW0:=Lib.hid (FW.new w0 #[.bool b,.string s,.bool c,.string t])
 clear hs ht
 go_enter Tryz.func102,Tryz.ntmps102
 go_wp2_with fail
 refine (May_any b c s t HS.out HT.out).mono ?_
 rintro e w1 ⟨r,rfl,hr,hb⟩
 have HW1:=Lib.hid (HW0.out.on hb)
 have HR:=Lib.hid hr
 clear hb hr
 cases r
 · have HP:=Lib.hid HW1.out.place
   have hq0:=HP.out.cell 0 _ rfl
   have hq1:=HP.out.cell 1 _ rfl
   have hf:=HP.out.frozen
   go_wp2
   have hk:=(HP.out.set 0 (.bool false)).set 1 (.string ⟨#[]⟩)
   have k0:=hk.cell 0 _ rfl
   have k1:=hk.cell 1 _ rfl
   exact bodyPost_ret (v:=.tuple #[.agg #[.bool false,.string ⟨#[]⟩],.int .i64 2]) (by simp [results,Tryz.results102,go_sem,k0,k1]) rfl ⟨_,_,rfl,.inr ⟨fun h=>Bool.noConfusion (HR.out.2 h),rfl,rfl⟩,below_put2 HW1.out.below (by omega) _ _⟩
 obtain ⟨x,hx⟩:=parts_of (by first | exact HR.out.1 rfl | exact HR.out.1 trivial)
 have HX:=Lib.hid hx
 have hc0:=HW1.out.one.cell 0 (.bool b) rfl
 have hc1:=HW1.out.one.cell 1 (.string s) rfl
 have hc2:=HW1.out.one.cell 2 (.bool c) rfl
 have hc3:=HW1.out.one.cell 3 (.string t) rfl
 clear hx HR
 go_wp2_with fail
 refine (rat_frac HX.out).mono ?_
 rintro e w2 ⟨gr,rfl,_,h1,hb⟩
 have HW2:=Lib.hid (HW1.out.on hb)
 have HRR2:=Lib.hid h1
 clear h1 hb hc0 hc1 hc2 hc3
 go_wp2_with fail
 refine (NewRat_any (by decide) (by decide) (by decide)).mono ?_
 rintro e w3 ⟨gh,rfl,_,h1,hb⟩
 have HW3:=Lib.hid (HW2.out.on hb)
 have HRR3:=Lib.hid (HRR2.out.on hb)
 have HH3:=Lib.hid h1
 clear h1 hb
 obtain ⟨hf,hhf⟩:∃ hf,hf=Rat.divInt 1 2:=⟨_,rfl⟩
 have HHF:=Lib.hid hhf
 rw [← hhf] at HH3
 clear hhf
 have KX:Hid (Sz 1024 x):=HX.out.fit.sz
 have KH:Hid (Sz 1 hf):=by rw [HHF.out]; exact sz_half
 have KS:Hid (Sz 1026 (x+hf)):=KX.out.add KH.out
 have ha:=below_new w3 (.cells #[.bool false,.slice none 0 0,.bool false,.slice none 0 0] 179)
 have HZ:=Lib.hid (RatAt.new w3).slot
 have HA3:=Lib.hid ha
 have hr4:=HRR3.out.on ha
 have hh4:=HH3.out.on ha
 clear ha
 go_wp2_with fail
 refine (rAdd_any HZ.out hr4 hh4 (KX.out.okR (by decide)) (KH.out.okR (by decide))).mono ?_
 rintro e w4 ⟨rfl,h1,h2⟩
 have hb:=HA3.out.trans (h2.below (Nat.le_refl _) HA3.out.size)
 have HW4:=Lib.hid (HW3.out.on hb)
 have HRR4:=Lib.hid (HRR3.out.on hb)
 have HH4:=Lib.hid (HH3.out.on hb)
 have HS4:=Lib.hid h1
 clear h1 h2 hb hr4 hh4 HZ HA3
 go_wp2_with fail
 refine (floor_any HS4.out (KS.out.okR (by decide))).mono ?_
 rintro e w5 ⟨gn,rfl,hgn,h1,hb⟩
 have HNOT:Hid (w0.heap.size+2≤gn):=Nat.le_trans HW4.out.place.lt hgn
 have HW5:=Lib.hid (HW4.out.on hb)
 have HRR5:=Lib.hid (HRR4.out.on hb)
 have HH5:=Lib.hid (HH4.out.on hb)
 obtain ⟨n,hn⟩:∃ n,n=flQ (x+hf):=⟨_,rfl⟩
 have HN5:Hid (IntAt w5 gn 0 n):=by rw [hn]; exact h1
 have KN:Hid (sz n≤1026):=by rw [hn]; exact sz_flQ KS.out
 have HN:=Lib.hid hn
 clear h1 hb hn
 have ha:=below_new w5 (.cells #[.bool false,.slice none 0 0,.bool false,.slice none 0 0] 179)
 have hz:=(RatAt.new w5).slot
 have hb2:=below_new (w5.alloc (.cells #[.bool false,.slice none 0 0,.bool false,.slice none 0 0] 179)) (.cells #[.bool false,.slice none 0 0,.bool false,.slice none 0 0] 179)
 have hz2:=(RatAt.new (w5.alloc (.cells #[.bool false,.slice none 0 0,.bool false,.slice none 0 0] 179))).slot
 rw [size_alloc] at hz2
 have HA:=Lib.hid (ha.trans (hb2.mono ha.size))
 have HZ:=Lib.hid (hz.on hb2)
 have HZ2:=Lib.hid hz2
 have hn6:=HN5.out.on HA.out
 have hlt:=HN5.out.lt
 clear ha hz hb2 hz2
 go_wp2_with fail
 refine (SetInt_any HZ2.out hn6 (by omega)).mono ?_
 rintro e w6 ⟨rfl,h1,h2⟩
 have HT6:=Lib.hid (h2.below (B:=w5.heap.size+1) (Nat.le_refl _) (by have:=HZ.out.lt; omega))
 have hb6:=HA.out.trans (HT6.out.mono (by omega))
 have HZ6:=Lib.hid (HZ.out.below HT6.out (by omega))
 have HW6:=Lib.hid (HW5.out.on hb6)
 have HRR6:=Lib.hid (HRR5.out.on hb6)
 have HH6:=Lib.hid (HH5.out.on hb6)
 have HN6:=Lib.hid (HN5.out.on hb6)
 have HNR:=Lib.hid h1
 have HB6:=Lib.hid hb6
 have KNR:Hid (Sz 1026 (n:Rat)):=sz_int KN.out (by decide)
 clear h1 h2 hb6 hn6 HT6 HZ HZ2 HA
 go_wp2_with fail
 refine (rSub_any HZ6.out HNR.out HRR6.out (KNR.out.okR (by decide)) (KX.out.okR (by decide))).mono ?_
 rintro e w7 ⟨rfl,h1,h2⟩
 have hb7:=HB6.out.trans (h2.below (Nat.le_refl _) HB6.out.size)
 have HW7:=Lib.hid (HW5.out.on hb7)
 have HH7:=Lib.hid (HH5.out.on hb7)
 have HN7:=Lib.hid (HN5.out.on hb7)
 have HO7:=Lib.hid h1
 have KO:Hid (Sz 2051 ((n:Rat)-x)):=KNR.out.sub KX.out
 clear h1 h2 hb7 HNR HZ6 HB6
 go_wp2_with fail
 refine (rCmp_any HO7.out HH7.out (KO.out.okR (by decide)) (KH.out.okR (by decide))).mono ?_
 rintro e w8 ⟨rfl,hb⟩
 have HW8:=Lib.hid (HW7.out.on hb)
 have HN8:=Lib.hid (HN7.out.on hb)
 have KN2:Hid (Okn n):=okn_size (Nat.le_trans KN.out (by decide))
 clear hb
 obtain ⟨kc,hkc⟩:∃ kc,kc=cmpQ ((n:Rat)-x) hf:=⟨_,rfl⟩
 rw [← hkc]
 have HKC:=Lib.hid hkc
 clear hkc
 by_cases hc:kc=0
 · subst hc
   have HOE:Hid ((n:Rat)-x=hf):=cmpQ_zero.1 HKC.out.symm
   go_wp2_with fail
   refine (Bit_any HN8.out 0 (by decide)).mono ?_
   rintro e w9 ⟨rfl,hb⟩
   have HW9:=Lib.hid (HW8.out.on hb)
   have HN9:=Lib.hid (HN8.out.on hb)
   clear hb
   rw [Nat.pow_zero,Nat.div_one]
   by_cases hp:n.natAbs % 2=1
   · have HP:=Lib.hid hp
     have HNQ:Hid (nearQ x=n-1):=by
      unfold Hid nearQ
      rw [← HHF.out,← HN.out,if_pos ⟨HOE.out,HP.out⟩]
     rw [hp]
     clear hp
     go_wp2_with fail
     refine (NewInt_any (n:=1) (by decide)).mono ?_
     rintro e w10 ⟨g1,rfl,hg1,h1,hb⟩
     have HW10:=Lib.hid (HW9.out.on hb)
     have HN10:=Lib.hid (HN9.out.on hb)
     have H1:=Lib.hid h1
     clear h1 hb
     go_wp2_with fail
     refine (Sub_any HN10.out.slot HN10.out H1.out KN2.out (okn_i64 (by decide))).mono ?_
     rintro e w11 ⟨rfl,h1,h2⟩
     have HN11:=Lib.hid h1
     have HW11:Hid (FW w0 w11 #[.bool b,.string s,.bool c,.string t]):=HW10.out.keep HNOT.out h2
     clear h1 h2
     go_wp2_with fail
     refine (back_agg HN11.out (okn_size (Nat.le_trans (sz_sub KN.out (Nat.le_trans (sz_i64 (by decide)) (by decide))) (by decide)))).mono ?_
     rintro e w12 ⟨p1,s1,rfl,hp1,hs1,hb⟩
     have HW12:=Lib.hid (HW11.out.on hb)
     have HP12:=Lib.hid HW12.out.place
     clear hb
     have hq0:=HP12.out.cell 0 _ rfl
     have hq1:=HP12.out.cell 1 _ rfl
     have hf:=HP12.out.frozen
     go_wp2
     have hk:=(HP12.out.set 0 (.bool p1)).set 1 (.string s1)
     have k0:=hk.cell 0 _ rfl
     have k1:=hk.cell 1 _ rfl
     exact bodyPost_ret (v:=.tuple #[.agg #[.bool p1,.string s1],.int .i64 0]) (by simp [results,Tryz.results102,go_sem,k0,k1]) rfl ⟨_,_,rfl,.inl ⟨x,HX.out.fit,HX.out.val,by rw [HNQ.out,hp1.out,hs1.out]; rfl,rfl⟩,below_put2 HW12.out.below (by omega) _ _⟩
   · have HP:=Lib.hid hp
     have hp0:n.natAbs % 2=0:=by omega
     have HNQ:Hid (nearQ x=n):=by
      unfold Hid nearQ
      rw [← HHF.out,← HN.out,if_neg (fun h=>HP.out h.2)]
     rw [hp0]
     clear hp hp0
     go_wp2_with fail
     refine (back_agg HN9.out KN2.out).mono ?_
     rintro e w12 ⟨p1,s1,rfl,hp1,hs1,hb⟩
     have HW12:=Lib.hid (HW9.out.on hb)
     have HP12:=Lib.hid HW12.out.place
     clear hb
     have hq0:=HP12.out.cell 0 _ rfl
     have hq1:=HP12.out.cell 1 _ rfl
     have hf:=HP12.out.frozen
     go_wp2
     have hk:=(HP12.out.set 0 (.bool p1)).set 1 (.string s1)
     have k0:=hk.cell 0 _ rfl
     have k1:=hk.cell 1 _ rfl
     exact bodyPost_ret (v:=.tuple #[.agg #[.bool p1,.string s1],.int .i64 0]) (by simp [results,Tryz.results102,go_sem,k0,k1]) rfl ⟨_,_,rfl,.inl ⟨x,HX.out.fit,HX.out.val,by rw [HNQ.out,hp1.out,hs1.out]; rfl,rfl⟩,below_put2 HW12.out.below (by omega) _ _⟩
 · have hkk:(kc==0)=false:=by rw [beq_eq_false_iff_ne]; exact hc
   have HNE:Hid (¬ (n:Rat)-x=hf):=fun e=>hc (by rw [HKC.out]; exact cmpQ_zero.2 e)
   have HNQ:Hid (nearQ x=n):=by
    unfold Hid nearQ
    rw [← HHF.out,← HN.out,if_neg (fun h=>HNE.out h.1)]
   clear hc
   go_wp2_with fail
   refine (back_agg HN8.out KN2.out).mono ?_
   rintro e w12 ⟨p1,s1,rfl,hp1,hs1,hb⟩
   have HW12:=Lib.hid (HW8.out.on hb)
   have HP12:=Lib.hid HW12.out.place
   clear hb
   have hq0:=HP12.out.cell 0 _ rfl
   have hq1:=HP12.out.cell 1 _ rfl
   have hf:=HP12.out.frozen
   go_wp2
   have hk:=(HP12.out.set 0 (.bool p1)).set 1 (.string s1)
   have k0:=hk.cell 0 _ rfl
   have k1:=hk.cell 1 _ rfl
   exact bodyPost_ret (v:=.tuple #[.agg #[.bool p1,.string s1],.int .i64 0]) (by simp [results,Tryz.results102,go_sem,k0,k1]) rfl ⟨_,_,rfl,.inl ⟨x,HX.out.fit,HX.out.val,by rw [HNQ.out,hp1.out,hs1.out]; rfl,rfl⟩,below_put2 HW12.out.below (by omega) _ _⟩
set_option maxHeartbeats 1600000 in
set_option maxRecDepth 100000 in
theorem WText_any {w0:World} (b:Bool) (s:ByteArray) (hs:s.size≤4294967296) :
  Calls Tryz.prog 105 #[.agg #[.bool b,.string s]] w0 fun e w'=>∃ u k,e=.returned (.tuple #[.string u,.int .i64 k])∧(WholeOk b s∧u=textN (numOf b s)∧k=0∨¬ WholeOk b s∧u=⟨#[]⟩∧k=2)∧Below w0.heap.size w0 w':=by
 have HS:=Lib.hid hs
 have h1:=below_new w0 (.cells #[.bool b,.string s] 23)
 have h2:=below_new (w0.alloc (.cells #[.bool b,.string s] 23)) (.cells #[.bool b,.string s] 23)
 have HB:=Lib.hid (h1.trans (h2.mono h1.size))
 have HX:=Lib.hid (BoxAt.new_at (w:=w0.alloc (.cells #[.bool b,.string s] 23)) #[.bool b,.string s] 23 (size_alloc w0 _).symm)
 clear hs h1 h2
 go_enter Tryz.func105,Tryz.ntmps105
 go_wp2_with fail
 refine (of_one b s HS.out HX.out).mono ?_
 rintro e w1 ⟨h,hb⟩
 have HB1:=Lib.hid (HB.out.trans (hb.mono HB.out.size))
 clear hb
 rcases h with ⟨ho,g,cap,p,rfl,hc,hi⟩ | ⟨ho,rfl⟩
 · have HO:=Lib.hid ho
   have HI:=Lib.hid hi
   have KT:Hid (Okt (numOf b s)):=by
    have h3:(mag (numOf b s).natAbs).size≤16384:=by rw [(numOf_ok ho).2.1]; exact ho.2
    have:=wl_size h3
    unfold Hid Okt
    omega
   clear ho hi
   go_wp2_with fail
   refine (String_any HI.out KT.out).mono ?_
   rintro e w2 ⟨rfl,hb⟩
   have HB2:=Lib.hid (HB1.out.trans (hb.mono HB1.out.size))
   clear hb hc
   go_wp2
   go_ret2
   exact ⟨_,_,rfl,.inl ⟨HO.out,rfl,rfl⟩,HB2.out⟩
 · have HO:=Lib.hid ho
   clear ho
   go_wp2
   go_ret2
   exact ⟨_,_,rfl,.inr ⟨HO.out,rfl,rfl⟩,HB1.out⟩
theorem textN_len (n:Int):(textN n).size≤32*(dig n.natAbs).length+1:=by
 rw [textN_size]
 unfold txt
 have:=dd_len_words n.natAbs
 split
 · simp
 · rw [List.length_reverse,List.length_append]
   split<;>simp<;>omega
theorem textN_small {n:Int} (h:(mag n.natAbs).size≤16384):(textN n).size≤200000:=by
 have h1:=textN_len n
 have h2:=wl_size h
 omega
def textQ (x:Rat):ByteArray:=if x.den=1 then textN x.num else textN x.num++(⟨#[47]⟩++textN (x.den:Int))
def TextAns (va:Value) (u:ByteArray) (k:Int):Prop:=(∃ x,Fit x∧va=fracV x∧u=textQ x∧k=0)∨(¬ IsFrac va∧u=⟨#[]⟩∧k=2)
theorem parts_den {b c:Bool} {s t:ByteArray} {x:Rat} (h:FracParts b s c t x):c=false∧t=mag x.den∧WholeOk false t∧numOf false t=(x.den:Int):=by
 have h2:=(isFrac_parts h.isFrac).2.1
 obtain ⟨rfl,rfl,rfl,rfl⟩:=agg4 h.val
 refine ⟨rfl,rfl,h2,?_⟩
 have:=numOf_mag (x.den:Int)
 rwa [show decide ((x.den:Int)<0)=false by simp,Int.natAbs_natCast] at this
set_option maxHeartbeats 3200000 in
set_option maxRecDepth 100000 in
theorem FText_any {w0:World} (b c:Bool) (s t:ByteArray) (hs:s.size≤maxLen) (ht:t.size≤maxLen) :
  Calls Tryz.prog 21 #[.agg #[.bool b,.string s,.bool c,.string t]] w0 fun e w'=>∃ u k,e=.returned (.tuple #[.string u,.int .i64 k])∧TextAns (.agg #[.bool b,.string s,.bool c,.string t]) u k∧Below w0.heap.size w0 w':=by
 have HS:=Lib.hid hs
 have HT:=Lib.hid ht
 have HW0:=Lib.hid (below_new w0 (.cells #[.bool b,.string s,.bool c,.string t] 25))
 have HX0:=Lib.hid (BoxAt.new w0 #[.bool b,.string s,.bool c,.string t] 25)
 clear hs ht
 go_enter Tryz.func21,Tryz.ntmps21
 go_wp2_with fail
 refine (May_any b c s t HS.out HT.out).mono ?_
 rintro e w1 ⟨r,rfl,hr,hb⟩
 have HX1:=Lib.hid (HX0.out.on hb)
 have HW1:=Lib.hid (HW0.out.trans (hb.mono HW0.out.size))
 have HR:=Lib.hid hr
 clear hb hr
 cases r
 · go_wp2
   go_ret2
   exact ⟨_,_,rfl,.inr ⟨fun h=>Bool.noConfusion (HR.out.2 h),rfl,rfl⟩,HW1.out⟩
 obtain ⟨x,hx⟩:=parts_of (by first | exact HR.out.1 rfl | exact HR.out.1 trivial)
 have HX:=Lib.hid hx
 obtain ⟨rfl,ht2,ho2,hn2⟩:=parts_den hx
 have HT2:=Lib.hid ht2
 have HO2:=Lib.hid ho2
 have HN2:=Lib.hid hn2
 have hc0:=HX1.out.cell 0 (.bool b) rfl
 have hc1:=HX1.out.cell 1 (.string s) rfl
 clear hx HR ht2 ho2 hn2
 go_wp2_with fail
 refine (WText_any b s HX.out.hs).mono ?_
 rintro e w2 ⟨un,k,rfl,hu,hb⟩
 have HU:Hid (un=textN x.num):=by
  obtain ⟨h1,h2⟩:=fracV_num HX.out
  rcases hu with h | h
  · rw [← h2]; exact h.2.1
  · exact absurd h1 h.1
 have HX2:=Lib.hid (HX1.out.on hb)
 have HW2:=Lib.hid (HW1.out.trans (hb.mono HW1.out.size))
 clear hu hb hc0 hc1
 go_wp2
 refine wp_region_acts 4 (fun w'=>Below w0.heap.size w0 w'∧BoxAt w' w0.heap.size #[.bool b,.string s,.bool false,.string t] 25) (fun w w'=>Below w.heap.size w w') (fun i w v=>match i with
   | 0=>v=.pointer (some ⟨w0.heap.size,2,none⟩)
   | 1=>v=.agg #[.bool false,.string t]
   | 2=>∃ g,v=.pointer (some ⟨g,0,none⟩)∧IntAt w g 0 1
   | _=>∃ s',v=.agg #[.bool false,.string s']∧Hid (s'=mag 1)) (by kernel_rfl) (by kernel_rfl) (by kernel_rfl) ⟨HW2.out.drew,HX2.out⟩ (fun _ _=>(Below.refl _ _)) ?_ ⟨?_,?_,?_,?_,trivial⟩ ?_
 · intro i w1 w2 v hC hC2 hE hV
   match i with
   | 0=>exact hV
   | 1=>exact hV
   | 2=>obtain ⟨g,e,h⟩:=hV; exact ⟨g,e,h.on hE⟩
   | _+3=>exact hV
 · intro a' w' hag hC hd K hK
   have e1:a'.tmps.getD 1 undef=.pointer (some ⟨w0.heap.size,0,none⟩):=hag 1 rfl
   go_step
   exact hK _ _ hC ((Below.refl _ _)) rfl
 · intro a' w' hag hC hd K hK
   have e17:a'.tmps.getD 17 undef=.pointer (some ⟨w0.heap.size,2,none⟩):=hd.1
   have hc0:=hC.2.cell 2 (.bool false) rfl
   have hc1:=hC.2.cell 3 (.string t) rfl
   have HK:=Lib.hid (hK (.agg #[.bool false,.string t]) _ hC (Below.refl _ _) rfl)
   clear hK hC
   go_step
   exact HK.out
 · intro a' w' hag hC hd K hK
   go_step
   refine (NewInt_any (n:=1) (by decide)).mono ?_
   rintro e w2 ⟨g,rfl,hg,h1,h2⟩
   exact hK _ _ ⟨hC.1.trans (h2.mono hC.1.size),hC.2.on h2⟩ h2 ⟨_,rfl,h1⟩
 · intro a' w' hag hC hd K hK
   obtain ⟨g19,e19,h19⟩:=hd.1
   have e19:a'.tmps.getD 19 undef=.pointer (some ⟨g19,0,none⟩):=e19
   go_step
   refine (back_agg h19 (okn_i64 (by decide))).mono ?_
   rintro e w2 ⟨p,s',rfl,h1,h2,hb⟩
   have hp:p=false:=by rw [h1.out]; rfl
   subst hp
   exact hK _ _ ⟨hC.1.trans (hb.mono hC.1.size),hC.2.on hb⟩ hb ⟨s',rfl,h2⟩
 · intro u w' hC hall
   obtain ⟨u0,u1,u2,u3,_⟩:=hall
   have u0:u 0=.pointer (some ⟨w0.heap.size,2,none⟩):=u0
   have u1:u 1=.agg #[.bool false,.string t]:=u1
   obtain ⟨s20,eu3,hs20⟩:=u3
   have u3:u 3=.agg #[.bool false,.string s20]:=eu3
   simp only [fillR,List.take_succ_cons,List.take_zero,Act.put,List.setIfInBounds_toArray,List.set_cons_succ,List.set_cons_zero,Nat.zero_add,Nat.reduceAdd,u0,u1,u3]
   clear u0 u1 u3
   have HC:=Lib.hid hC.1
   have HX3:=Lib.hid hC.2
   clear hC
   by_cases hd:t.toList=s20.toList
   · have HD:Hid (x.den=1):=by
      have h1:=toList_inj.1 hd
      rw [HT2.out,hs20.out] at h1
      exact mag_inj h1
     go_wp2
     go_ret2
     exact ⟨_,_,rfl,.inl ⟨x,HX.out.fit,HX.out.val,by rw [textQ,if_pos HD.out]; exact HU.out,rfl⟩,HC.out⟩
   · have HD:Hid (¬ x.den=1):=fun e=>hd (by rw [HT2.out,hs20.out,e])
     have hc0:=HX3.out.cell 2 (.bool false) rfl
     have hc1:=HX3.out.cell 3 (.string t) rfl
     go_wp2_with fail
     refine (WText_any false t HX.out.ht).mono ?_
     rintro e w4 ⟨u2,k2,rfl,hu,hb⟩
     have HU2:Hid (u2=textN (x.den:Int)):=by
      rcases hu with h | h
      · rw [← HN2.out]; exact h.2.1
      · exact absurd HO2.out h.1
     have HB:=Lib.hid (HC.out.trans (hb.mono HC.out.size))
     have hu1:un.size≤200000:=by rw [HU.out]; exact textN_small (Nat.le_trans HX.out.fit.1 (by decide))
     have hu2:u2.size≤200000:=by rw [HU2.out]; exact textN_small (by rw [Int.natAbs_natCast]; exact Nat.le_trans HX.out.fit.2 (by decide))
     have hu3:((⟨#[47]⟩:ByteArray)++u2).size≤200001:=by rw [ByteArray.size_append]; show 1+u2.size≤_; omega
     clear hu hb hc0 hc1
     go_wp2
     go_ret2
     exact ⟨_,_,rfl,.inl ⟨x,HX.out.fit,HX.out.val,by rw [textQ,if_neg HD.out,← HU.out,← HU2.out],rfl⟩,HB.out⟩
end Go.Proofs.YthkpghhoffihmaaGreatDoor
end
section
namespace Go.Proofs.YthkpghhoffihmaaGreatDoor.Y
open Go Go.RowKit
set_option maxRecDepth 100000
def sFText {x:Rat} (h:Fit x) {u:ByteArray} (hu:textQ x=u):Spec Tryz.prog :=
 ⟨21,Tryz.call21,[.one (.a (fC x))],[],.tup [.c (.b (.v (.string u))),nI' 0],[],fun β w hh=>by
  refine (FText_any (decide (x.num<0)) false (mag x.num.natAbs) (mag x.den) (Nat.le_trans h.1 (by decide)) (Nat.le_trans h.2 (by decide))).mono ?_
  rintro e w' ⟨v,k,rfl,⟨y,_,hy,rfl,rfl⟩ | ⟨hn,_⟩,hb⟩
  · obtain rfl:x=y:=fracV_inj hy
    rw [hu]
    exact ⟨[],(fun _ h=>by cases h),rfl,trivial,hb⟩
  · exact absurd (fitF x h) hn,by kernel_rfl⟩
end Go.Proofs.YthkpghhoffihmaaGreatDoor.Y
end
section
namespace Go.Proofs.YthkpghhoffihmaaGreatDoor.Y
open Go Go.RowKit
theorem spec_yes {P:Program} (S:Spec P) (ho:S.obs=[]) (hr:S.res=.one (.c (.b (.v (.bool true))))) (w:World):Calls P S.f (S.args.map (SV.den idE)).toArray w fun e w'=>e=.returned (.bool true)∧Below w.heap.size w w':=by
 refine (S.ok idE w (by rw [ho]; intro k t h; simp at h)).mono ?_
 rintro e w' ⟨xs,_,rfl,_,hb⟩
 exact ⟨by rw [hr]; rfl,hb⟩
end Go.Proofs.YthkpghhoffihmaaGreatDoor.Y
end
section
namespace Go.Proofs.YthkpghhoffihmaaGreatDoor.Y
open Go Go.RowKit
set_option maxRecDepth 100000
abbrev I64 (n:Int):Prop:=-9223372036854775808≤n∧n≤9223372036854775807
theorem sz_i64 {n:Int} (h:I64 n):Sz 8 (Rat.divInt n 1):=sz_lit n 1 (by omega) (by decide) (by decide)
def sFIntA (n:Int) (h:I64 n):Spec Tryz.prog :=
 Spec.auto Tryz.call108 [.one (svI n)] [] (.one (.a (fC (Rat.divInt n 1)))) []
  [mkR,fSetI n h,(sTldF ((sz_i64 h).mono (by decide))).e] [] 400 Tryz.func108 hmA (by kernel_rfl) (fun β=>by kernel_rfl)
end Go.Proofs.YthkpghhoffihmaaGreatDoor.Y
end
section
namespace Go.Proofs.YthkpghhoffihmaaGreatDoor
open Go.RowKit
theorem ans_fit {q:Rat} {v:Value} {k:Int} (h:Ans q v k) (hf:Fit q):v=fracV q∧k=0:=by
 rcases h with ⟨_,h1,h2⟩ | ⟨h1,_⟩
 · exact ⟨h1,h2⟩
 · exact absurd hf h1
theorem fit_of {n:Int} {d:Nat} {q:Rat} (h1:q.num=n) (h2:q.den=d) (h3:n.natAbs<256) (h4:d<256):Fit q:=by
 refine ⟨?_,?_⟩
 · rw [h1]; exact Nat.le_trans (mag_size_le.2 (show n.natAbs<256^1 by omega)) (by decide)
 · rw [h2]; exact Nat.le_trans (mag_size_le.2 (show d<256^1 by omega)) (by decide)
theorem half_num:(Rat.divInt 1 2).num=1:=by rfl
theorem half_den:(Rat.divInt 1 2).den=2:=by rfl
theorem third_num:(Rat.divInt 2 (-6)).num = -1:=by rfl
theorem third_den:(Rat.divInt 2 (-6)).den=3:=by rfl
theorem sixth_sum:Rat.divInt 1 2+Rat.divInt 2 (-6)=Rat.divInt 1 6:=by
 rw [Rat.divInt_add_divInt _ _ (by decide) (by decide)]
 rfl
theorem sixth_num:(Rat.divInt 1 2+Rat.divInt 2 (-6)).num=1:=by rw [sixth_sum]; rfl
theorem sixth_den:(Rat.divInt 1 2+Rat.divInt 2 (-6)).den=6:=by rw [sixth_sum]; rfl
theorem sixth_text:textQ (Rat.divInt 1 2+Rat.divInt 2 (-6))=⟨#[49,47,54]⟩:=by
 have e1:dd 1=[49]:=by rw [dd_pos 1 (by decide),show 1/10=0 from rfl,dd_zero]
 have e6:dd 6=[54]:=by rw [dd_pos 6 (by decide),show 6/10=0 from rfl,dd_zero]
 unfold textQ
 rw [sixth_num,sixth_den,if_neg (by decide)]
 unfold textN txt
 rw [if_neg (by decide),if_neg (by decide),if_neg (by decide),if_neg (by decide),show (1:Int).natAbs=1 from rfl,show ((6:Nat):Int).natAbs=6 from rfl,e1,e6]
 rfl
theorem near_half:nearQ (Rat.divInt 1 2)=0:=by
 have h1:flQ (Rat.divInt 1 2+Rat.divInt 1 2)=1:=by
  rw [Rat.divInt_add_divInt _ _ (by decide) (by decide)]
  rfl
 have h2:((1:Int):Rat)-Rat.divInt 1 2=Rat.divInt 1 2:=by
  rw [show ((1:Int):Rat)=Rat.divInt 1 1 from rfl,Rat.divInt_sub_divInt _ _ (by decide) (by decide)]
  rfl
 unfold nearQ
 rw [h1,if_pos ⟨h2,by rfl⟩]
 rfl
theorem frac_sizes {p c:Bool} {s t:ByteArray} {q:Rat} (h:(Value.agg #[.bool p,.string s,.bool c,.string t])=fracV q) (hf:Fit q):s.size≤maxLen∧t.size≤maxLen:=by
 obtain ⟨_,rfl,_,rfl⟩:=agg4 h
 exact ⟨Nat.le_trans hf.1 (by decide),Nat.le_trans hf.2 (by decide)⟩
theorem small_fit {n m:Int} {v:Value} {k:Int} (h:SmallAns n m v k) (h0:m≠0) (hf:Fit (Rat.divInt n m)):v=fracV (Rat.divInt n m)∧k=0:=by
 rcases h with ⟨h1,_⟩ | ⟨_,h1⟩
 · exact absurd h1 h0
 · exact ans_fit h1 hf
theorem bin_fit {fn:Rat→Rat→Rat} {va vb v:Value} {k:Int} {x y:Rat} (h:BinAns fn va vb v k) (ha:va=fracV x) (hb:vb=fracV y) (hx:Fit x) (hy:Fit y):Ans (fn x y) v k:=by
 rcases h with ⟨x',y',_,_,h1,h2,h3⟩ | ⟨h1,_⟩
 · rw [ha] at h1; rw [hb] at h2
   rw [fracV_inj h1,fracV_inj h2]
   exact h3
 · rcases h1 with h1 | h1
   · exact absurd ⟨x,hx,ha⟩ h1
   · exact absurd ⟨y,hy,hb⟩ h1
theorem fit_half:Fit (Rat.divInt 1 2):=fit_of half_num half_den (by decide) (by decide)
theorem fit_third:Fit (Rat.divInt 2 (-6)):=fit_of third_num third_den (by decide) (by decide)
theorem fit_sixth:Fit (Rat.divInt 1 2+Rat.divInt 2 (-6)):=fit_of sixth_num sixth_den (by decide) (by decide)
theorem wanted_of {ops:Array Oper} {t:Array Value} {j d:Nat} {b:Bool} {o o':Oper} (hg:o'.guard=some (j,b)) (ho:ops[j]?=some o) (hd:o.dst=some d) (h:t.getD d undef=.bool b):Region.wanted o' (yielded ops t)=true:=by
 unfold Region.wanted
 rw [hg]
 simp [yielded_of ho hd h]
set_option maxHeartbeats 3200000 in
set_option maxRecDepth 100000 in
theorem known_any {w0:World}:Calls Tryz.prog 20 #[] w0 fun e w'=>e=.returned (.bool true)∧Below w0.heap.size w0 w':=by
 go_enter Tryz.func20,Tryz.ntmps20
 go_wp2_with fail
 refine (Small_any (n:=1) (m:=2) (by decide) (by decide)).mono ?_
 rintro e w1 ⟨v,k,rfl,ha,hb⟩
 obtain ⟨hv,rfl⟩:=small_fit ha (by decide) fit_half
 obtain ⟨p1,s1,c1,t1,hv1⟩:∃ p1 s1 c1 t1,v=.agg #[.bool p1,.string s1,.bool c1,.string t1]:=⟨_,_,_,_,hv⟩
 subst hv1
 have HV1:=Lib.hid hv
 have HB1:=Lib.hid hb
 clear ha hv hb
 have HX1:=Lib.hid (BoxAt.new w1 #[.bool p1,.string s1,.bool c1,.string t1] 25)
 have HB1':=Lib.hid (below_alloc_ HB1.out (.cells #[.bool p1,.string s1,.bool c1,.string t1] 25))
 go_wp2_with fail
 refine (Small_any (n:=2) (m:=-6) (by decide) (by decide)).mono ?_
 rintro e w2 ⟨v,k,rfl,ha,hb⟩
 obtain ⟨hv,rfl⟩:=small_fit ha (by decide) fit_third
 obtain ⟨p2,s2,c2,t2,hv1⟩:∃ p1 s1 c1 t1,v=.agg #[.bool p1,.string s1,.bool c1,.string t1]:=⟨_,_,_,_,hv⟩
 subst hv1
 have HV2:=Lib.hid hv
 have HX2:=Lib.hid ((HX1.out.on hb).on (below_new w2 (.cells #[.bool p2,.string s2,.bool c2,.string t2] 25)))
 have HB2:=Lib.hid (below_alloc_ (HB1'.out.trans (hb.mono HB1'.out.size)) (.cells #[.bool p2,.string s2,.bool c2,.string t2] 25))
 clear ha hv hb
 have hc0:=HX2.out.cell 0 (.bool p1) rfl
 have hc1:=HX2.out.cell 1 (.string s1) rfl
 have hc2:=HX2.out.cell 2 (.bool c1) rfl
 have hc3:=HX2.out.cell 3 (.string t1) rfl
 go_wp2_with fail
 refine (FAdd_any p1 c1 p2 c2 s1 t1 s2 t2 (frac_sizes HV1.out fit_half).1 (frac_sizes HV1.out fit_half).2 (frac_sizes HV2.out fit_third).1 (frac_sizes HV2.out fit_third).2).mono ?_
 rintro e w3 ⟨v,k,rfl,ha,hb⟩
 obtain ⟨hv,rfl⟩:=ans_fit (bin_fit ha HV1.out HV2.out fit_half fit_third) fit_sixth
 obtain ⟨p3,s3,c3,t3,hv1⟩:∃ p1 s1 c1 t1,v=.agg #[.bool p1,.string s1,.bool c1,.string t1]:=⟨_,_,_,_,hv⟩
 subst hv1
 have HV3:=Lib.hid hv
 have HX3:=Lib.hid ((HX2.out.on hb).on (below_new w3 (.cells #[.bool p3,.string s3,.bool c3,.string t3] 25)))
 have HB3:=Lib.hid (below_alloc_ (HB2.out.trans (hb.mono HB2.out.size)) (.cells #[.bool p3,.string s3,.bool c3,.string t3] 25))
 clear ha hv hb hc0 hc1 hc2 hc3
 go_wp2_with fail
 refine (FText_any p3 c3 s3 t3 (frac_sizes HV3.out fit_sixth).1 (frac_sizes HV3.out fit_sixth).2).mono ?_
 rintro e w4 ⟨u,k,rfl,ha,hb⟩
 have hu:u=⟨#[49,47,54]⟩∧k=0:=by
  rcases ha with ⟨x,_,h1,h2,h3⟩ | ⟨h1,_⟩
  · have e:=fracV_inj (HV3.out.symm.trans h1)
    rw [h2,← e]
    exact ⟨sixth_text,h3⟩
  · exact absurd ⟨_,fit_sixth,HV3.out⟩ h1
 obtain ⟨rfl,rfl⟩:=hu
 have HX4:=Lib.hid (HX3.out.on hb)
 have HB4:=Lib.hid (HB3.out.trans (hb.mono HB3.out.size))
 clear ha hb
 have hc0:=HX4.out.cell 0 (.bool p1) rfl
 have hc1:=HX4.out.cell 1 (.string s1) rfl
 have hc2:=HX4.out.cell 2 (.bool c1) rfl
 have hc3:=HX4.out.cell 3 (.string t1) rfl
 go_wp2_with fail
 refine (Nearest_any p1 c1 s1 t1 (frac_sizes HV1.out fit_half).1 (frac_sizes HV1.out fit_half).2).mono ?_
 rintro e w5 ⟨v,k,rfl,ha,hb⟩
 have hv:v=.agg #[.bool false,.string ⟨#[]⟩]∧k=0:=by
  rcases ha with ⟨x,_,h1,h2,h3⟩ | ⟨h1,_⟩
  · have e:=fracV_inj (HV1.out.symm.trans h1)
    rw [h2,← e,near_half]
    exact ⟨wholeV_sg0 (neg:=false),h3⟩
  · exact absurd ⟨_,fit_half,HV1.out⟩ h1
 obtain ⟨rfl,rfl⟩:=hv
 have HB5:=Lib.hid (HB4.out.trans (hb.mono HB4.out.size))
 have HX5:=Lib.hid (BoxAt.new w5 #[.bool false,.string ⟨#[]⟩] 23)
 clear ha hb hc0 hc1 hc2 hc3
 have HB6:=Lib.hid (below_alloc_ HB5.out (.cells #[.bool false,.string ⟨#[]⟩] 23))
 clear HX1 HX2 HX3 HX4 HB1 HB1' HB2 HB3 HB4 HB5 HV1 HV2 HV3
 have hc0:=HX5.out.cell 0 (.bool false) rfl
 have hc1:=HX5.out.cell 1 (.string ⟨#[]⟩) rfl
 go_wp2
 generalize hW:w5.alloc (.cells #[.bool false,.string ⟨#[]⟩] 23)=w6 at HX5 HB6 hc0 hc1 ⊢
 generalize hG:w5.heap.size=g at HX5 hc0 hc1 ⊢
 clear hW hG
 refine wp_region_acts 27 (fun w'=>Below w6.heap.size w6 w') (fun w w'=>Below w.heap.size w w') (fun i w v=>match i with
   | 0=>v=.int .i64 0
   | 1=>v=.bool true
   | 2=>v=.bool true
   | 3=>v=.int .i64 0
   | 4=>v=.bool true
   | 5=>v=.bool true
   | 6=>v=.bool true
   | 7=>v=.int .i64 0
   | 8=>v=.bool true
   | 9=>v=.bool true
   | 10=>v=.bool true
   | 11=>v=.string ⟨#[49,47,54]⟩
   | 12=>v=.bool true
   | 13=>v=.bool true
   | 14=>v=.bool true
   | 15=>v=.int .i64 0
   | 16=>v=.bool true
   | 17=>v=.bool true
   | 18=>v=.bool true
   | 19=>v=.agg #[.bool false,.string ⟨#[]⟩]
   | 20=>v=.agg #[.bool false,.string ⟨#[]⟩]
   | 21=>v=.bool true
   | 22=>v=.bool true
   | 23=>v=.bool true
   | 24=>v=.int .i64 0
   | 25=>v=.bool true
   | _=>v=.bool true) (by kernel_rfl) (by kernel_rfl) (by kernel_rfl) ((Below.refl _ _).drew) (fun _ _=>(Below.refl _ _)) ?_ ⟨?_,?_,?_,?_,?_,?_,?_,?_,?_,?_,?_,?_,?_,?_,?_,?_,?_,?_,?_,?_,?_,?_,?_,?_,?_,?_,?_,trivial⟩ ?_
 · intro i w1 w2 v hC hC2 hE hV
   match i with
   | 0=>exact hV
   | 1=>exact hV
   | 2=>exact hV
   | 3=>exact hV
   | 4=>exact hV
   | 5=>exact hV
   | 6=>exact hV
   | 7=>exact hV
   | 8=>exact hV
   | 9=>exact hV
   | 10=>exact hV
   | 11=>exact hV
   | 12=>exact hV
   | 13=>exact hV
   | 14=>exact hV
   | 15=>exact hV
   | 16=>exact hV
   | 17=>exact hV
   | 18=>exact hV
   | 19=>exact hV
   | 20=>exact hV
   | 21=>exact hV
   | 22=>exact hV
   | 23=>exact hV
   | 24=>exact hV
   | 25=>exact hV
   | _+26=>exact hV
 · intro a' w' hag hC hd K hK
   have e2:a'.tmps.getD 2 undef=.int .i64 0:=hag 2 rfl
   go_step
   exact hK _ _ hC ((Below.refl _ _)) rfl
 · intro a' w' hag hC hd K hK
   have e35:a'.tmps.getD 35 undef=.int .i64 0:=hd.1
   go_step
   exact hK _ _ hC ((Below.refl _ _)) rfl
 · intro a' w' hag hC hd K hK
   have e36:a'.tmps.getD 36 undef=.bool true:=hd.1
   go_step
   exact hK _ _ hC ((Below.refl _ _)) rfl
 · intro a' w' hag hC hd
   refine ⟨fun _=>?_,fun hw=>absurd (wanted_of (j:=2) (d:=37) rfl rfl rfl hd.1) (by rw [hw]; decide)⟩
   intro K hK
   have e4:a'.tmps.getD 4 undef=.int .i64 0:=hag 4 rfl
   go_step
   exact hK _ _ hC ((Below.refl _ _)) rfl
 · intro a' w' hag hC hd
   refine ⟨fun _=>?_,fun hw=>absurd (wanted_of (j:=2) (d:=37) rfl rfl rfl hd.2.1) (by rw [hw]; decide)⟩
   intro K hK
   have e38:a'.tmps.getD 38 undef=.int .i64 0:=hd.1
   go_step
   exact hK _ _ hC ((Below.refl _ _)) rfl
 · intro a' w' hag hC hd K hK
   have e37:a'.tmps.getD 37 undef=.bool true:=hd.1
   have e39:a'.tmps.getD 39 undef=.bool true:=hd.2.1
   go_step
   exact hK _ _ hC ((Below.refl _ _)) rfl
 · intro a' w' hag hC hd K hK
   have e40:a'.tmps.getD 40 undef=.bool true:=hd.1
   go_step
   exact hK _ _ hC ((Below.refl _ _)) rfl
 · intro a' w' hag hC hd
   refine ⟨fun _=>?_,fun hw=>absurd (wanted_of (j:=6) (d:=41) rfl rfl rfl hd.1) (by rw [hw]; decide)⟩
   intro K hK
   have e6:a'.tmps.getD 6 undef=.int .i64 0:=hag 6 rfl
   go_step
   exact hK _ _ hC ((Below.refl _ _)) rfl
 · intro a' w' hag hC hd
   refine ⟨fun _=>?_,fun hw=>absurd (wanted_of (j:=6) (d:=41) rfl rfl rfl hd.2.1) (by rw [hw]; decide)⟩
   intro K hK
   have e42:a'.tmps.getD 42 undef=.int .i64 0:=hd.1
   go_step
   exact hK _ _ hC ((Below.refl _ _)) rfl
 · intro a' w' hag hC hd K hK
   have e41:a'.tmps.getD 41 undef=.bool true:=hd.1
   have e43:a'.tmps.getD 43 undef=.bool true:=hd.2.1
   go_step
   exact hK _ _ hC ((Below.refl _ _)) rfl
 · intro a' w' hag hC hd K hK
   have e44:a'.tmps.getD 44 undef=.bool true:=hd.1
   go_step
   exact hK _ _ hC ((Below.refl _ _)) rfl
 · intro a' w' hag hC hd
   refine ⟨fun _=>?_,fun hw=>absurd (wanted_of (j:=10) (d:=45) rfl rfl rfl hd.1) (by rw [hw]; decide)⟩
   intro K hK
   have e7:a'.tmps.getD 7 undef=.string ⟨#[49,47,54]⟩:=hag 7 rfl
   go_step
   exact hK _ _ hC ((Below.refl _ _)) rfl
 · intro a' w' hag hC hd
   refine ⟨fun _=>?_,fun hw=>absurd (wanted_of (j:=10) (d:=45) rfl rfl rfl hd.2.1) (by rw [hw]; decide)⟩
   intro K hK
   have e46:a'.tmps.getD 46 undef=.string ⟨#[49,47,54]⟩:=hd.1
   go_step
   exact hK _ _ hC ((Below.refl _ _)) rfl
 · intro a' w' hag hC hd K hK
   have e45:a'.tmps.getD 45 undef=.bool true:=hd.1
   have e47:a'.tmps.getD 47 undef=.bool true:=hd.2.1
   go_step
   exact hK _ _ hC ((Below.refl _ _)) rfl
 · intro a' w' hag hC hd K hK
   have e48:a'.tmps.getD 48 undef=.bool true:=hd.1
   go_step
   exact hK _ _ hC ((Below.refl _ _)) rfl
 · intro a' w' hag hC hd
   refine ⟨fun _=>?_,fun hw=>absurd (wanted_of (j:=14) (d:=49) rfl rfl rfl hd.1) (by rw [hw]; decide)⟩
   intro K hK
   have e8:a'.tmps.getD 8 undef=.int .i64 0:=hag 8 rfl
   go_step
   exact hK _ _ hC ((Below.refl _ _)) rfl
 · intro a' w' hag hC hd
   refine ⟨fun _=>?_,fun hw=>absurd (wanted_of (j:=14) (d:=49) rfl rfl rfl hd.2.1) (by rw [hw]; decide)⟩
   intro K hK
   have e50:a'.tmps.getD 50 undef=.int .i64 0:=hd.1
   go_step
   exact hK _ _ hC ((Below.refl _ _)) rfl
 · intro a' w' hag hC hd K hK
   have e49:a'.tmps.getD 49 undef=.bool true:=hd.1
   have e51:a'.tmps.getD 51 undef=.bool true:=hd.2.1
   go_step
   exact hK _ _ hC ((Below.refl _ _)) rfl
 · intro a' w' hag hC hd K hK
   have e52:a'.tmps.getD 52 undef=.bool true:=hd.1
   go_step
   exact hK _ _ hC ((Below.refl _ _)) rfl
 · intro a' w' hag hC hd
   refine ⟨fun _=>?_,fun hw=>absurd (wanted_of (j:=18) (d:=53) rfl rfl rfl hd.1) (by rw [hw]; decide)⟩
   intro K hK
   have e9:a'.tmps.getD 9 undef=.pointer (some ⟨g,0,none⟩):=hag 9 rfl
   have hc0:=(BoxAt.on (w':=w') HX5.out hC).cell 0 (.bool false) rfl
   have hc1:=(BoxAt.on (w':=w') HX5.out hC).cell 1 (.string ⟨#[]⟩) rfl
   have HK:=Lib.hid (hK (.agg #[.bool false,.string ⟨#[]⟩]) _ hC (Below.refl _ _) rfl)
   clear hK hC
   go_step
   exact HK.out
 · intro a' w' hag hC hd
   refine ⟨fun _=>?_,fun hw=>absurd (wanted_of (j:=18) (d:=53) rfl rfl rfl hd.1) (by rw [hw]; decide)⟩
   intro K hK
   go_step
   refine (rof_any (n:=0) (by decide)).mono ?_
   rintro e w7 ⟨rfl,hb⟩
   exact hK _ _ (hC.trans (hb.mono hC.size)) hb (wholeV_sg0 (neg:=false))
 · intro a' w' hag hC hd
   refine ⟨fun _=>?_,fun hw=>absurd (wanted_of (j:=18) (d:=53) rfl rfl rfl hd.2.2.1) (by rw [hw]; decide)⟩
   intro K hK
   have e54:a'.tmps.getD 54 undef=.agg #[.bool false,.string ⟨#[]⟩]:=hd.1
   have e55:a'.tmps.getD 55 undef=.agg #[.bool false,.string ⟨#[]⟩]:=hd.2.1
   go_step
   exact hK _ _ hC ((Below.refl _ _)) rfl
 · intro a' w' hag hC hd K hK
   have e53:a'.tmps.getD 53 undef=.bool true:=hd.1
   have e56:a'.tmps.getD 56 undef=.bool true:=hd.2.1
   go_step
   exact hK _ _ hC ((Below.refl _ _)) rfl
 · intro a' w' hag hC hd K hK
   have e57:a'.tmps.getD 57 undef=.bool true:=hd.1
   go_step
   exact hK _ _ hC ((Below.refl _ _)) rfl
 · intro a' w' hag hC hd
   refine ⟨fun _=>?_,fun hw=>absurd (wanted_of (j:=23) (d:=58) rfl rfl rfl hd.1) (by rw [hw]; decide)⟩
   intro K hK
   have e10:a'.tmps.getD 10 undef=.int .i64 0:=hag 10 rfl
   go_step
   exact hK _ _ hC ((Below.refl _ _)) rfl
 · intro a' w' hag hC hd
   refine ⟨fun _=>?_,fun hw=>absurd (wanted_of (j:=23) (d:=58) rfl rfl rfl hd.2.1) (by rw [hw]; decide)⟩
   intro K hK
   have e59:a'.tmps.getD 59 undef=.int .i64 0:=hd.1
   go_step
   exact hK _ _ hC ((Below.refl _ _)) rfl
 · intro a' w' hag hC hd K hK
   have e58:a'.tmps.getD 58 undef=.bool true:=hd.1
   have e60:a'.tmps.getD 60 undef=.bool true:=hd.2.1
   go_step
   exact hK _ _ hC ((Below.refl _ _)) rfl
 · intro u w' hC hall
   obtain ⟨u0,u1,u2,u3,u4,u5,u6,u7,u8,u9,u10,u11,u12,u13,u14,u15,u16,u17,u18,u19,u20,u21,u22,u23,u24,u25,u26,_⟩:=hall
   have u0:u 0=.int .i64 0:=u0
   have u1:u 1=.bool true:=u1
   have u2:u 2=.bool true:=u2
   have u3:u 3=.int .i64 0:=u3
   have u4:u 4=.bool true:=u4
   have u5:u 5=.bool true:=u5
   have u6:u 6=.bool true:=u6
   have u7:u 7=.int .i64 0:=u7
   have u8:u 8=.bool true:=u8
   have u9:u 9=.bool true:=u9
   have u10:u 10=.bool true:=u10
   have u11:u 11=.string ⟨#[49,47,54]⟩:=u11
   have u12:u 12=.bool true:=u12
   have u13:u 13=.bool true:=u13
   have u14:u 14=.bool true:=u14
   have u15:u 15=.int .i64 0:=u15
   have u16:u 16=.bool true:=u16
   have u17:u 17=.bool true:=u17
   have u18:u 18=.bool true:=u18
   have u19:u 19=.agg #[.bool false,.string ⟨#[]⟩]:=u19
   have u20:u 20=.agg #[.bool false,.string ⟨#[]⟩]:=u20
   have u21:u 21=.bool true:=u21
   have u22:u 22=.bool true:=u22
   have u23:u 23=.bool true:=u23
   have u24:u 24=.int .i64 0:=u24
   have u25:u 25=.bool true:=u25
   have u26:u 26=.bool true:=u26
   simp only [fillR,List.take_succ_cons,List.take_zero,Act.put,List.setIfInBounds_toArray,List.set_cons_succ,List.set_cons_zero,Nat.zero_add,Nat.reduceAdd,u0,u1,u2,u3,u4,u5,u6,u7,u8,u9,u10,u11,u12,u13,u14,u15,u16,u17,u18,u19,u20,u21,u22,u23,u24,u25,u26]
   clear u0 u1 u2 u3 u4 u5 u6 u7 u8 u9 u10 u11 u12 u13 u14 u15 u16 u17 u18 u19 u20 u21 u22 u23 u24 u25 u26
   have HB7:=Lib.hid (HB6.out.trans (hC.mono HB6.out.size))
   clear hC
   go_wp2
   go_ret
   exact ⟨rfl,HB7.out⟩
def LongPost (most n:Nat) (ss ts:Nat→ByteArray) (w:World) (e:Ending) (w':World):Prop:=∃ r,e=.returned (.bool r)∧(r=true↔∃ j,j<n∧(most<(ss j).size∨most<(ts j).size))∧w=w'
set_option maxRecDepth 100000 in
theorem long_any {w:World} {a n cap:Nat} (most:Nat) (ss ts:Nat→ByteArray) (hm:most≤1000000) (hn:n≤1000000) (h1:∀ j,j<n→w.cell? ⟨a,j*4+1,none⟩=some (.string (ss j))) (h2:∀ j,j<n→w.cell? ⟨a,j*4+3,none⟩=some (.string (ts j))) :
  Calls Tryz.prog 19 #[.int .i64 (most:Int),.slice (some ⟨a,0,none⟩) n cap] w (LongPost most n ss ts w):=by
 have H1:=Lib.hid h1
 have H2:=Lib.hid h2
 clear h1 h2
 go_enter Tryz.func19,Tryz.ntmps19
 go_wp2
 go_loop [5] (fun i=>∃ k:Nat,k≤n∧i=.int .i64 (k:Int)∧Hid (∀ j,j<k→(ss j).size≤most∧(ts j).size≤most)) (fun i=>n-(intOf i).toNat)
 case atStart=>exact ⟨0,Nat.zero_le _,rfl,fun j hj=>absurd hj (Nat.not_lt_zero _)⟩
 case round =>
  obtain ⟨k,hk,rfl,HK⟩:=hrel
  by_cases hlt:k<n
  · have hc1:=H1.out k hlt
    have hc2:=H2.out k hlt
    obtain ⟨s,hs⟩:∃ s,s=ss k:=⟨_,rfl⟩
    obtain ⟨t,ht⟩:∃ t,t=ts k:=⟨_,rfl⟩
    rw [← hs] at hc1
    rw [← ht] at hc2
    have HS:=Lib.hid hs
    have HT:=Lib.hid ht
    clear hs ht
    by_cases c1:most<s.size
    · have c1i:(most:Int)<(s.size:Int):=by omega
      go_wp2
      go_ret
      exact ⟨true,rfl,⟨fun _=>⟨k,hlt,.inl (by rw [← HS.out]; exact c1)⟩,fun _=>rfl⟩,rfl⟩
    · have c1i:(s.size:Int)≤(most:Int):=by omega
      by_cases c2:most<t.size
      · have c2i:(most:Int)<(t.size:Int):=by omega
        go_wp2
        go_ret
        exact ⟨true,rfl,⟨fun _=>⟨k,hlt,.inr (by rw [← HT.out]; exact c2)⟩,fun _=>rfl⟩,rfl⟩
      · have c2i:(t.size:Int)≤(most:Int):=by omega
        have HK2:Hid (∀ j,j<k+1→(ss j).size≤most∧(ts j).size≤most):=by
         intro j hj
         rcases Nat.lt_or_ge j k with h | h
         · exact HK.out j h
         · obtain rfl:j=k:=by omega
           rw [← HS.out,← HT.out]
           exact ⟨by omega,by omega⟩
        go_wp2
        go_round
        case rel=>exact ⟨k+1,by omega,by go_num,HK2⟩
        case measure=>simp [intOf]; omega
  · obtain rfl:k=n:=by omega
    go_wp2
    go_ret
    refine ⟨false,rfl,⟨fun h=>Bool.noConfusion h,fun h=>?_⟩,rfl⟩
    obtain ⟨j,hj,h⟩:=h
    have:=HK.out j hj
    omega
theorem long1_w {w:World} {a cap:Nat} {b c:Bool} {s t:ByteArray} {T:TypeId} (most:Nat) (hm:most≤1000000) (h:BoxAt w a #[.bool b,.string s,.bool c,.string t] T) (r:Bool) (hr:r=true↔¬ (s.size≤most∧t.size≤most)) :
  Calls Tryz.prog 19 #[.int .i64 (most:Int),.slice (some ⟨a,0,none⟩) 1 cap] w fun e w'=>e=.returned (.bool r)∧Below w.heap.size w w':=by
 refine (long_any (n:=1) (cap:=cap) most (fun _=>s) (fun _=>t) hm (by decide) ?_ ?_).mono ?_
 · intro j hj
   obtain rfl:j=0:=by omega
   exact h.cell 1 _ rfl
 · intro j hj
   obtain rfl:j=0:=by omega
   exact h.cell 3 _ rfl
 · rintro e w' ⟨r',rfl,hr',rfl⟩
   refine ⟨?_,Below.refl _ _⟩
   rw [Bool.eq_iff_iff.2 (hr'.trans (Iff.trans ?_ hr.symm))]
   constructor
   · rintro ⟨j,hj,h1⟩ ⟨h2,h3⟩
     have h1:most<s.size∨most<t.size:=h1
     omega
   · intro hn
     exact ⟨0,by decide,show most<s.size∨most<t.size by omega⟩
end Go.Proofs.YthkpghhoffihmaaGreatDoor
end
section
namespace Go.Proofs.YthkpghhoffihmaaGreatDoor.Y
open Go Go.RowKit
set_option maxRecDepth 100000
def nISign {n c:Int} (hc:n.sign=c):Ev Tryz.prog:=dyn1 fun k _ =>
 .call 237 Tryz.call237 (fun β=>#[.pointer ((β k).v 0)]) [(k,(intT n).ob)] 0 (tag (.int .i64 c)) []
  (fun β w h=>by
   obtain ⟨a,ha,ka⟩:=needI (n:=n) (k:=k) h (by simp)
   simp only [ha.1]
   exact of_pure0 ((sign_any ka).mono fun e w' ⟨he,hb⟩=>⟨by rw [he,hc],by rw [← hb]; exact Below.refl _ _⟩) (fun _=>rfl))
theorem bits_same {m L K:Nat} (h:Bits m L) (k:Bits m K):L=K:=by
 have key:∀ {a b:Nat},Bits m a→Bits m b→a≤b:=fun {a b} ha hb=>by
  rcases Nat.lt_or_ge b a with hlt | hge
  · exfalso
    have h1:=ha.2 (by omega)
    have h2:2^b≤2^(a-1):=Nat.pow_le_pow_right (by decide) (by omega)
    have:=hb.1
    omega
  · exact hge
 exact Nat.le_antisymm (key h k) (key k h)
def nBitLen {n:Int} {L:Nat} (hL:Bits n.natAbs L):Ev Tryz.prog:=dyn1 fun k _ =>
 .call 327 Tryz.call327 (fun β=>#[.pointer ((β k).v 0)]) [(k,(intT n).ob)] 0 (tag (.int .i64 (L:Int))) []
  (fun β w h=>by
   obtain ⟨a,ha,ka⟩:=needI (n:=n) (k:=k) h (by simp)
   simp only [ha.1]
   exact of_pure0 ((BitLen_any ka).mono fun e w' ⟨K,he,hK,_,hb⟩=>⟨by rw [he,bits_same hK hL],hb⟩) (fun _=>rfl))
theorem bits_of (m:Nat) (h:(mag m).size≤16384):∃ L,Bits m L∧L≤131072:=by
 rcases Nat.eq_zero_or_pos m with rfl | hm
 · exact ⟨0,⟨by decide,fun h=>absurd h (by decide)⟩,by decide⟩
 · refine ⟨m.log2+1,⟨Nat.lt_log2_self,fun _=>by rw [Nat.add_sub_cancel]; exact Nat.log2_self_le (by omega)⟩,?_⟩
   obtain ⟨K,hK⟩:∃ K:Nat,K=16384:=⟨_,rfl⟩
   have h1:m<256^K:=by
    have:=sz_le (n:=(m:Int)) (k:=K)
    unfold sz at this
    rw [Int.natAbs_natCast] at this
    exact this.1 (by rw [hK]; exact h)
   have h2:m<2^(8*K):=by
    have e:(256:Nat)^K=2^(8*K):=by rw [show (256:Nat)=2^8 from rfl,← Nat.pow_mul]
    rwa [e] at h1
   have:=(Nat.log2_lt (by omega)).2 h2
   omega
theorem sign_neg_lit (n:Int):Value.bool (decide (n.sign<0))=.bool (decide (n<0)):=by
 congr 1
 exact decide_eq_decide.2 Int.sign_neg_iff
theorem gt_no {L K:Nat} (h:L≤K):Value.bool (decide ((K:Int)<(L:Int)))=.bool false:=by rw [decide_eq_false (by omega)]
abbrev w2C (p:Bool) (m:Nat):List Lf:=[.b (.v (.bool p)),.b (.v (.string (mag m)))]
abbrev w00:List Lf:=[.b (.v (.bool false)),.b (.v (.string ⟨#[]⟩))]
theorem p_lit {p b:Bool} (h:p=b):Value.bool p=.bool b:=by rw [h]
def sWTold {n:Int} {b:Bool} (hb:decide (n<0)=b) (hn:sz n≤16384) {L:Nat} (hL:Bits n.natAbs L) (hl:L≤131072):Spec Tryz.prog :=
 Spec.auto Tryz.call242 [rV 0] [intT n] (.tup [.a (w2C b n.natAbs),nI' 0]) []
  [nBitLen hL,.eqv 6 (.bool (decide ((131072:Int)<(L:Int)))) (.bool false) (gt_no (K:=131072) hl),nISign (n:=n) rfl,.eqv 10 (.bool (decide (n.sign<0))) (.bool b) ((sign_neg_lit n).trans (p_lit hb)),nBytes (Nat.le_trans hn (by decide)),dStr n]
  [] 400 Tryz.func242 hmA (by kernel_rfl) (fun β=>by kernel_rfl)
end Go.Proofs.YthkpghhoffihmaaGreatDoor.Y
end
section
namespace Go.Proofs.YthkpghhoffihmaaGreatDoor
open Go.RowKit
set_option maxRecDepth 100000 in
set_option maxHeartbeats 1600000 in
theorem rText_any {w0:World} (p:Bool) (s:ByteArray) (n:Int) (hp:p=decide (n<0)) (hs:s=mag n.natAbs) (hm:s.size≤16384) :
  Calls Tryz.prog 113 #[.agg #[.bool p,.string s]] w0 fun e w'=>e=.returned (.string (textN n))∧Below w0.heap.size w0 w':=by
 have HB0:=Lib.hid (below_new w0 (.cells #[.bool p,.string s] 23))
 have HX0:=Lib.hid (BoxAt.new w0 #[.bool p,.string s] 23)
 have HP:=Lib.hid hp
 have HE:=Lib.hid (str_empty hs)
 by_cases h0:s.size=0
 · obtain rfl:=empty_data h0
   have HN:Hid (n=0):=by have:=HE.out.1 h0; unfold Hid; omega
   clear h0 hp hs hm
   go_enter Tryz.func113,Tryz.ntmps113
   go_wp2
   go_ret
   exact ⟨by rw [HN.out]; rfl,HB0.out⟩
 · obtain ⟨hE,hE2⟩:=toList_some h0
   obtain ⟨N,hN⟩:∃ N,N=n.natAbs:=⟨_,rfl⟩
   have hn:(dig N).length≤134217728:=by
    have:=wl_size (n:=N) (by rw [hN,← hs]; exact hm)
    omega
   have hNp:0<N:=by
    rcases Nat.eq_zero_or_pos N with h | h
    · exact absurd (HE.out.2 (by omega)) h0
    · exact h
   rw [← hN] at hs
   have HN:=Lib.hid hN
   have HO:=Lib.hid hn
   have HNP:=Lib.hid hNp
   have HS:=Lib.hid hs
   have HM:=Lib.hid hm
   clear hN hn hNp hs hm hp h0
   go_enter Tryz.func113,Tryz.ntmps113
   go_wp2_with fail
   refine (words_any s N HS.out (by have:=HM.out; omega)).mono ?_
   rintro e w ⟨A,c,rfl,hw,hb0⟩
   have HX:=Lib.hid (HX0.out.on hb0)
   have HB:=Lib.hid (HB0.out.trans (hb0.mono HB0.out.size))
   have HW:=Lib.hid hw
   clear hw hb0 hE hE2
   go_wp2
   go_loopg [3,4] N (fun k v x wr=>∃ (B:Option Addr) (lb cb R:Nat) (ds:List Nat),x=.slice B lb cb∧R≤k∧Hid (Words wr (.slice B lb cb) (dig R))∧Hid (BRow wr w.heap.size v ds)∧Hid (dd N=ds++dd R)∧Hid (Below w.heap.size w wr))
   case atStart=>exact ⟨A,_,c,N,[],rfl,Nat.le_refl _,HW.out,BRow.nil _ _,rfl,Below.refl _ _⟩
   case round =>
    obtain ⟨B,lb,cb,R,ds,rfl,hR,hRW,hrow,hdd,hb⟩:=hrel
    have hlb:=hRW.out.len.1
    have hlm:=hRW.out.2.1
    by_cases hlp:0<lb
    · have hRp:0<R:=by
       rcases Nat.eq_zero_or_pos R with h | h
       · rw [h,dig_zero] at hlb; simp at hlb; omega
       · exact h
      have HRP:=Lib.hid hRp
      have hlm2:lb≤17179869184:=by omega
      clear hlb hlm hRp
      go_wp2_with fail
      refine (small_dig hRW.out 1000000000 (by omega) (by omega)).mono ?_
      rintro e w1 ⟨v1,r0,rfl,hr,hrb,hq,hb1⟩
      obtain ⟨q,hqd⟩:∃ q,q=R/1000000000:=⟨_,rfl⟩
      rw [← hqd] at hq
      obtain ⟨A1,l1,c1,rfl⟩:=hq.form
      have HQ:=Lib.hid hq
      have HB1:=Lib.hid hb1
      have HQD:=Lib.hid hqd
      have hl1:=hq.len
      have hl1b:l1≤17179869184:=by have:=hq.2.1; omega
      have HL1:Hid (l1=0↔q=0):=by
       have:=dig_nil_iff q
       rw [Hid,hl1.1]
       exact List.length_eq_zero_iff.trans this
      clear hq hb1 hqd hl1
      go_wp2
      go_loopw [3,6,7] (fun v r k wr=>∃ (i R' r':Nat) (ds':List Nat),i≤9∧k=.int .i64 (i:Int)∧r=.int .u64 (r':Int)∧r'<1000000000∧Hid (r'<10^(9-i))∧Hid (R'=r'+10^(9-i)*q)∧Hid (dd N=ds'++dd R')∧Hid (BRow wr w.heap.size v ds')∧Hid (Words wr (.slice A1 l1 c1) (dig q))∧Hid (Below w.heap.size w wr)) (fun _ _ k _=>9-(intOf k).toNat)
      case atStart =>
       refine ⟨0,R,r0,ds,by omega,rfl,rfl,hrb,by rw [Hid,Nat.sub_zero]; exact hrb,?_,hdd,?_,HQ.out,?_⟩
       · rw [Hid,Nat.sub_zero,hr.out,HQD.out]; omega
       · exact hrow.out.on HB1.out
       · exact hb.out.trans (HB1.out.mono hb.out.size)
      case round =>
       obtain ⟨i,R',r',ds',hi,rfl,rfl,hr9,hrp,hRR,hdd',hrow',hQ',hb'⟩:=hrel
       have hdl:ds'.length≤4294967296:=by
        have h1:=dd_len_words N
        have h2:=HO.out
        have h3:=congrArg List.length hdd'.out
        rw [List.length_append] at h3
        omega
       by_cases hgo:i<9∧(0<r'∨0<l1)
       · obtain ⟨hi9,hor⟩:=hgo
         have hpq:0<r'∨0<q:=hor.imp id fun h=>by have:=HL1.out; omega
         obtain ⟨k1,k2⟩:=dd_step hdd'.out hRR.out hi9 hpq
         have K1:=Lib.hid k1
         have K2:=Lib.hid k2
         have K3:Hid (r'/10<10^(9-(i+1))):=by
          have h1:=hrp.out
          rw [show 9-i=(9-(i+1))+1 by omega,Nat.pow_succ] at h1
          exact Nat.div_lt_of_lt_mul (by rw [Nat.mul_comm]; exact h1)
         have hd0:(48:Int)+(r':Int) % 10=((48+r' % 10:Nat):Int):=by omega
         have hd1:48+r' % 10<256:=by omega
         obtain ⟨z,hz'⟩:∃ z,z=48+r' % 10:=⟨_,rfl⟩
         rw [← hz'] at hd0 hd1 K1
         have hbl:=Lib.hid hb'.out.size
         have hrowA:=Lib.hid hrow'
         clear k1 k2 hz' hpq
         have hstep:∀ (v':Value) (w':World),BRow w' w.heap.size v' (ds'++[z])→Below w.heap.size w w'→Words w' (.slice A1 l1 c1) (dig q)→True:=fun _ _ _ _ _=>trivial
         clear hstep
         rcases (by omega:0<l1∨(l1=0∧0<r')) with hor | ⟨rfl,hor⟩
         all_goals
          go_wp2_with (at_builtin; refine wpList_append_byte rfl (.tmp 39) (.tmp 44) rfl w.heap.size _ ds' rfl (hrow'.out.alloc _) ⟨wr.heap.size,0,none⟩ 1 z _ rfl (cell_new0 _ _ _) ?_ hd1 ?_ ?_ ?_)
          · omega
          · omega
          · have:=hbl.out; simp; omega
          · intro v' w' hrow2 hb2 hws
            have HR2:=Lib.hid hrow2
            have HB3:=Lib.hid ((hb'.out.alloc hb'.out.size _).trans hb2)
            have HW2:=Lib.hid (hws _ _ (hQ'.out.below ((Below.refl _ _).alloc (Nat.le_refl _) _)))
            clear hrow2 hb2 hws
            go_wp2
            go_roundw
            case rel=>first | exact ⟨i+1,R'/10,r'/10,ds'++[z],by omega,by go_num,rfl,by omega,K3,K2,K1,HR2,HW2,HB3⟩ | exact ⟨i+1,R'/10,0,ds'++[z],by omega,by go_num,rfl,by omega,K3,K2,K1,HR2,HW2,HB3⟩
            case measure=>simp [intOf]; omega
       · have hend:r'=0∧R'=q∧(i=9∨(i<9∧l1=0)):=by
          have h1:=hrp.out
          have h2:=hRR.out
          have h3:=HL1.out
          rcases Nat.lt_or_ge i 9 with h | h
          · have:r'=0:=by omega
            have h5:l1=0:=by omega
            have h4:=h3.1 h5
            subst h4
            refine ⟨this,by rw [h2,this]; simp,.inr ⟨h,h5⟩⟩
          · obtain rfl:i=9:=by omega
            simp at h1 h2
            exact ⟨by omega,by omega,.inl rfl⟩
         obtain ⟨rfl,e2,hcase⟩:=hend
         have HE2:=Lib.hid e2
         have HQR:Hid (q<R):=by have:=HQD.out; have:=HRP.out; unfold Hid; omega
         clear hgo e2
         rcases hcase with rfl | ⟨h9,rfl⟩
         all_goals
          go_wp2
          go_roundg q
          case measure=>exact Nat.lt_of_lt_of_le HQR.out hR
          case rel=>exact ⟨A1,_,c1,q,ds',rfl,Nat.le_refl _,hQ',hrow',by rw [← HE2.out]; exact hdd',hb'⟩
    · obtain rfl:lb=0:=by omega
      have hR0:=(dig_nil_iff R).1 (List.eq_nil_of_length_eq_zero hlb.symm)
      subst hR0
      have hdd2:=hdd.out
      rw [dd_zero,List.append_nil] at hdd2
      have hbl:=Lib.hid hb.out.size
      have hneg:=(HX.out.on hb.out).cell 0 (.bool p) rfl
      have hdl:ds.length≤4294967296:=by
       have h1:=dd_len_words N
       have h2:=HO.out
       rw [hdd2] at h1
       omega
      have hdp:0<ds.length:=by
       have:=HNP.out
       rw [← hdd2,dd_pos N this]
       simp
      have HDD:=Lib.hid hdd2
      clear hlb hlm hdd2
      cases p
      · obtain ⟨zs,hzs⟩:∃ zs,zs=ds:=⟨_,rfl⟩
        obtain ⟨len,hlen⟩:∃ len,len=ds.length:=⟨_,rfl⟩
        have HTXT:Hid (strN zs.reverse=textN n):=by
         have h1:¬ n<0:=by have:=HP.out; simpa using this
         have h2:n≠0:=by have:=HNP.out; have:=HN.out; omega
         rw [Hid,textN,txt,if_neg h2,if_neg h1,List.append_nil,← HN.out,HDD.out,hzs]
        have HLEN:Hid (zs.length=len):=by rw [hzs,hlen]; rfl
        have HROW:=hrow
        rw [← hzs] at HROW
        have hlenp:0<len:=by omega
        have hlenb:len≤4294967297:=by omega
        have HBB:=hb
        clear hzs hlen hdp hdl hrow hb
        obtain ⟨g,cap,cs,rfl,hg,hcap,hh,hcs⟩:=HROW.out.open_ (by rw [HLEN.out]; omega)
        rw [HLEN.out]
        have hbb:BBuf wr g (turned zs 0):=by rw [turned_zero]; exact ⟨HROW.out.1,cs,hh,by have:=HROW.out.size_le hh rfl; exact this,hcs⟩
        clear hh hcs hcap
        go_wp2
        go_loopw [8,9] (fun i k wr=>∃ (j:Nat),j≤len∧i=.int .i64 (j:Int)∧k=.int .i64 ((len:Int)-1-(j:Int))∧BBuf wr g (turned zs j)∧Below w.heap.size w wr) (fun i _ _=>len-(intOf i).toNat)
        case atStart=>exact ⟨0,by omega,rfl,by go_num,hbb,HBB.out⟩
        case round =>
         obtain ⟨j,hj,rfl,rfl,hb',hbl⟩:=hrel
         have hsz:=hbl.size
         have hgl:=hb'.lt
         clear hbb
         by_cases hlt:(j:Int)<(len:Int)-1-(j:Int)
         · obtain ⟨m,hm⟩:∃ m,m=len-1-j:=⟨_,rfl⟩
           have hmi:(len:Int)-1-(j:Int)=(m:Int):=by omega
           obtain ⟨x,hx⟩:∃ x,x=zs.getD j 0:=⟨_,rfl⟩
           obtain ⟨y,hy⟩:∃ y,y=zs.getD m 0:=⟨_,rfl⟩
           have hjm:j<m:=by omega
           have hml:m<len:=by omega
           have hc1:=hb'.cell j (by rw [turned_len,HLEN.out]; omega)
           have hc2:=hb'.cell m (by rw [turned_len,HLEN.out]; omega)
           rw [turned_getD zs j j (Nat.le_refl _) (by rw [HLEN.out]; omega),← hx] at hc1
           rw [turned_getD zs j m (by omega) (by rw [HLEN.out]; omega),← hy] at hc2
           have hx8:x<256:=by rw [hx]; exact HROW.out.1.getD _
           have hy8:y<256:=by rw [hy]; exact HROW.out.1.getD _
           have hf1:=hb'.frozen j
           have hf2:=hb'.frozen m
           have hset:=(hb'.set j y _ hy8 rfl).set m x _ hx8 rfl
           have hset2:=(hb'.set m x _ hx8 rfl).set j y _ hy8 rfl
           have hts:=turned_step zs j m (by rw [HLEN.out]; omega) hjm
           rw [← hx,← hy] at hts
           have hts2:((turned zs j).set m x).set j y=turned zs (j+1):=by rw [List.set_comm _ _ (by omega)]; exact hts
           rw [hts] at hset
           rw [hts2] at hset2
           have HS:=Lib.hid hset
           have HS2:=Lib.hid hset2
           have HBL:=Lib.hid hbl
           have HM:=Lib.hid hm
           have hgg:w.heap.size≤g:=hg
           rw [hmi]
           clear hset hset2 hts hts2 hx hy hb' hbl hm hmi hlt
           go_wp2
           go_roundw
           case rel =>
            have hm:=HM.out
            refine ⟨j+1,by omega,by go_num,by go_num,?_,?_⟩
            · first | exact HS.out | exact HS2.out
            · exact (HBL.out.setCell hgg _).setCell hgg _
           case measure=>simp [intOf]; omega
         · have ht:=turned_done zs j (by rw [HLEN.out]; omega)
           rw [ht] at hb'
           have hs:=fun cap=>string_of_byt (hb'.byt (n:=len) (cap:=cap) (by rw [List.length_reverse,HLEN.out]))
           rw [HTXT.out] at hs
           have HBL:=Lib.hid hbl
           clear ht hb' hbl
           go_wp2
           go_ret
           exact ⟨rfl,HB.out.trans (HBL.out.mono HB.out.size)⟩
      · go_wp2_with (at_builtin; refine wpList_append_byte rfl (.tmp 50) (.tmp 51) rfl w.heap.size _ ds rfl (hrow.out.alloc _) ⟨wr.heap.size,0,none⟩ 1 45 _ rfl (cell_new0 _ _ _) rfl (by omega) ?_ ?_ ?_)
        · omega
        · have:=hbl.out; simp; omega
        intro v' w' hrow2 hb2 hws
        obtain ⟨zs,hzs⟩:∃ zs,zs=ds++[45]:=⟨_,rfl⟩
        obtain ⟨len,hlen⟩:∃ len,len=ds.length+1:=⟨_,rfl⟩
        have HTXT:Hid (strN zs.reverse=textN n):=by
         have h1:n<0:=by have:=HP.out; simpa using this.symm
         have h2:n≠0:=by omega
         rw [Hid,textN,txt,if_neg h2,if_pos h1,← HN.out,HDD.out,hzs]
        have HLEN:Hid (zs.length=len):=by rw [hzs,hlen]; simp [Hid]
        have HROW:=Lib.hid hrow2
        rw [← hzs] at HROW
        have hlenp:0<len:=by omega
        have hlenb:len≤4294967297:=by omega
        have HBB:=Lib.hid ((hb.out.alloc hb.out.size _).trans hb2)
        clear hzs hlen hdp hdl hrow hb hrow2 hb2 hws
        obtain ⟨g,cap,cs,rfl,hg,hcap,hh,hcs⟩:=HROW.out.open_ (by rw [HLEN.out]; omega)
        rw [HLEN.out]
        have hbb:BBuf w' g (turned zs 0):=by rw [turned_zero]; exact ⟨HROW.out.1,cs,hh,by have:=HROW.out.size_le hh rfl; exact this,hcs⟩
        clear hh hcs hcap
        go_wp2
        go_loopw [8,9] (fun i k wr=>∃ (j:Nat),j≤len∧i=.int .i64 (j:Int)∧k=.int .i64 ((len:Int)-1-(j:Int))∧BBuf wr g (turned zs j)∧Below w.heap.size w wr) (fun i _ _=>len-(intOf i).toNat)
        case atStart=>exact ⟨0,by omega,rfl,by go_num,hbb,HBB.out⟩
        case round =>
         obtain ⟨j,hj,rfl,rfl,hb',hbl⟩:=hrel
         have hsz:=hbl.size
         have hgl:=hb'.lt
         clear hbb
         by_cases hlt:(j:Int)<(len:Int)-1-(j:Int)
         · obtain ⟨m,hm⟩:∃ m,m=len-1-j:=⟨_,rfl⟩
           have hmi:(len:Int)-1-(j:Int)=(m:Int):=by omega
           obtain ⟨x,hx⟩:∃ x,x=zs.getD j 0:=⟨_,rfl⟩
           obtain ⟨y,hy⟩:∃ y,y=zs.getD m 0:=⟨_,rfl⟩
           have hjm:j<m:=by omega
           have hml:m<len:=by omega
           have hc1:=hb'.cell j (by rw [turned_len,HLEN.out]; omega)
           have hc2:=hb'.cell m (by rw [turned_len,HLEN.out]; omega)
           rw [turned_getD zs j j (Nat.le_refl _) (by rw [HLEN.out]; omega),← hx] at hc1
           rw [turned_getD zs j m (by omega) (by rw [HLEN.out]; omega),← hy] at hc2
           have hx8:x<256:=by rw [hx]; exact HROW.out.1.getD _
           have hy8:y<256:=by rw [hy]; exact HROW.out.1.getD _
           have hf1:=hb'.frozen j
           have hf2:=hb'.frozen m
           have hset:=(hb'.set j y _ hy8 rfl).set m x _ hx8 rfl
           have hset2:=(hb'.set m x _ hx8 rfl).set j y _ hy8 rfl
           have hts:=turned_step zs j m (by rw [HLEN.out]; omega) hjm
           rw [← hx,← hy] at hts
           have hts2:((turned zs j).set m x).set j y=turned zs (j+1):=by rw [List.set_comm _ _ (by omega)]; exact hts
           rw [hts] at hset
           rw [hts2] at hset2
           have HS:=Lib.hid hset
           have HS2:=Lib.hid hset2
           have HBL:=Lib.hid hbl
           have HM:=Lib.hid hm
           have hgg:w.heap.size≤g:=hg
           rw [hmi]
           clear hset hset2 hts hts2 hx hy hb' hbl hm hmi hlt
           go_wp2
           go_roundw
           case rel =>
            have hm:=HM.out
            refine ⟨j+1,by omega,by go_num,by go_num,?_,?_⟩
            · first | exact HS.out | exact HS2.out
            · exact (HBL.out.setCell hgg _).setCell hgg _
           case measure=>simp [intOf]; omega
         · have ht:=turned_done zs j (by rw [HLEN.out]; omega)
           rw [ht] at hb'
           have hs:=fun cap=>string_of_byt (hb'.byt (n:=len) (cap:=cap) (by rw [List.length_reverse,HLEN.out]))
           rw [HTXT.out] at hs
           have HBL:=Lib.hid hbl
           clear ht hb' hbl
           go_wp2
           go_ret
           exact ⟨rfl,HB.out.trans (HBL.out.mono HB.out.size)⟩
end Go.Proofs.YthkpghhoffihmaaGreatDoor
end
section
namespace Go.Proofs.YthkpghhoffihmaaGreatDoor
theorem mag_1:mag 1=⟨#[1]⟩:=by unfold mag; rw [led_pos 1 (by decide),led_zero]; rfl
end Go.Proofs.YthkpghhoffihmaaGreatDoor
namespace Go.Proofs.YthkpghhoffihmaaGreatDoor.Y
open Go Go.RowKit
set_option maxRecDepth 100000
end Go.Proofs.YthkpghhoffihmaaGreatDoor.Y
end
section
namespace Go.Proofs.YthkpghhoffihmaaGreatDoor.Y
open Go Go.RowKit
set_option maxRecDepth 100000
abbrev txS (s:ByteArray):SV:=.one (.c (.b (.v (.string s))))
abbrev txW (n:Int):SV:=.one (.a [.b (.v (.bool (decide (n<0)))),.b (.v (.string (mag n.natAbs)))])
def sR2Text {n:Int} (h:(mag n.natAbs).size≤16384):Spec Tryz.prog :=
 ⟨113,Tryz.call113,[txW n],[],txS (textN n),[],fun β w _=>by
  refine (rText_any (decide (n<0)) (mag n.natAbs) n rfl rfl h).mono fun e w' ⟨he,hb⟩=>⟨[],(fun _ h=>by cases h),he,trivial,hb⟩,by kernel_rfl⟩
def sR2TextD {k:Nat} (h:(mag k).size≤16384):Spec Tryz.prog :=
 (sR2Text (n:=(k:Int)) (by rw [Int.natAbs_natCast]; exact h)).as [.one (.a [.b (.v (.bool false)),.b (.v (.string (mag k)))])] (txS (textN k)) (by
  show [txW (k:Int)]=_
  unfold txW
  rw [Int.natAbs_natCast,show decide ((k:Int)<0)=false from decide_eq_false (by omega)]) rfl
theorem tx_den1 {x:Rat} {b:Bool} (h:decide (x.den=1)=b):weq false false (mag x.den) ⟨#[1]⟩=b:=by
 rw [← h,Bool.eq_iff_iff,weq_iff,decide_eq_true_iff,show (⟨#[1]⟩:ByteArray)=mag 1 from mag_1.symm]
 exact ⟨fun e=>mag_inj e.2,fun e=>⟨rfl,by rw [e]⟩⟩
def eOf1:Ev Tryz.prog:=.ret 103 Tryz.call103 #[.int .i64 1] (.agg #[.bool false,.string ⟨#[1]⟩]) (fun w=>by rw [show Value.agg #[.bool false,.string ⟨#[1]⟩]=wholeV 1 by unfold wholeV; rw [show (1:Int).natAbs=1 from rfl,mag_1]; rfl]; exact rof_any (by decide))
theorem tx_cat {a b:ByteArray} (h:a.size+b.size≤4194304) {u:TypeId} (x y:Operand) (ρ:Operand→Value) (o:Oper) (w:World) (ho:o.op=.binOp .add 9 x y u) (hx:(Op.binOp .add 9 x y u).operands.toList.map ρ=[.string a,.string b]):(execOp ρ o).run Tryz.prog w=.ok (.value (.string (a++b))) w:=by
 have h3:ρ x=.string a∧ρ y=.string b:=by simpa [Op.operands] using hx
 unfold execOp
 rw [ho]
 dsimp only
 rw [h3.1,h3.2]
 have h4:=run_string_add (P:=Tryz.prog) (w:=w) a b (by omega) (by omega)
 simp [go_sem,binOp,h4]
def eCat (a b:ByteArray) (h:a.size+b.size≤4194304):Ev Tryz.prog:=.dyn (fun o _ _=>match o.op with
 | .binOp .add t _ _ _=>Nat.beq t 9
 | _=>false) fun o _ _=>match o.op with
 | .binOp .add _ x y u=>.gen (o.dst.getD 0) (.binOp .add 9 x y u) [.string a,.string b] (.string (a++b)) (fun ρ o w ho hx=>tx_cat h x y ρ o w ho hx)
 | _=>.cut
theorem tx_eq {a b:ByteArray} {r:Bool} (h:decide (a=b)=r) {u:TypeId} (x y:Operand) (ρ:Operand→Value) (o:Oper) (w:World) (ho:o.op=.binOp .eql 9 x y u) (hx:(Op.binOp .eql 9 x y u).operands.toList.map ρ=[.string a,.string b]):(execOp ρ o).run Tryz.prog w=.ok (.value (.bool r)) w:=by
 have h3:ρ x=.string a∧ρ y=.string b:=by simpa [Op.operands] using hx
 unfold execOp
 rw [ho]
 dsimp only
 rw [h3.1,h3.2,← h]
 simp [go_sem,binOp,Op.stringOp]
 rw [Bool.eq_iff_iff,beq_iff_eq,decide_eq_true_iff,toList_inj]
def eStrEq (a b:ByteArray) {r:Bool} (h:decide (a=b)=r):Ev Tryz.prog:=.dyn (fun o _ _=>match o.op with
 | .binOp .eql t _ _ _=>Nat.beq t 9
 | _=>false) fun o _ _=>match o.op with
 | .binOp .eql _ x y u=>.gen (o.dst.getD 0) (.binOp .eql 9 x y u) [.string a,.string b] (.bool r) (fun ρ o w ho hx=>tx_eq h x y ρ o w ho hx)
 | _=>.cut
theorem tx_a {a b:ByteArray} {i j:Nat} (h:a.size≤i) (k:b.size≤j) (hs:i+j≤4194304:=by decide):a.size+b.size≤4194304:=by omega
theorem tx_b {a b:ByteArray} {i j:Nat} (h:a.size≤i) (k:b.size≤j):(a++b).size≤i+j:=by rw [ByteArray.size_append]; omega
def sR3Text {x:Rat} (hx:Fit x):Spec Tryz.prog :=
 ⟨25,Tryz.call25,[.one (.a (fC x))],[],txS (textQ x),[],fun β w hh=>by
  have h1:(mag x.num.natAbs).size≤16384:=Nat.le_trans hx.1 (by decide)
  have h2:(mag x.den).size≤16384:=Nat.le_trans hx.2 (by decide)
  cases hd:decide (x.den=1) with
  | true =>
   rw [show textQ x=textN x.num by unfold textQ; rw [if_pos (of_decide_eq_true hd)]]
   exact spec_auto (args:=[.one (.a (fC x))]) (obs:=[]) (evs:=[eOf1,eqEvW _ _ _ _ true (tx_den1 hd),(sR2Text h1).e]) (Ns:=[(1,4),(3,9)]) (m:=400) Tryz.func25 hmA (fun β=>by kernel_rfl) (by kernel_rfl) β w hh
  | false =>
   rw [show textQ x=textN x.num++⟨#[47]⟩++textN (x.den:Int) by
    unfold textQ
    rw [if_neg (of_decide_eq_false hd),ByteArray.append_assoc]]
   exact spec_auto (args:=[.one (.a (fC x))]) (obs:=[]) (evs:=[eOf1,eqEvW _ _ _ _ false (tx_den1 hd),(sR2Text h1).e,eCat (textN x.num) ⟨#[47]⟩ (tx_a (textN_small h1) (j:=1) (by decide)),(sR2TextD h2).e,eCat (textN x.num++⟨#[47]⟩) (textN x.den) (tx_a (tx_b (textN_small h1) (j:=1) (by decide)) (textN_small (n:=(x.den:Int)) (by rw [Int.natAbs_natCast]; exact h2)))]) (Ns:=[(1,4),(3,9)]) (m:=400) Tryz.func25 hmA (fun β=>by kernel_rfl) (by kernel_rfl) β w hh,by kernel_rfl⟩
end Go.Proofs.YthkpghhoffihmaaGreatDoor.Y
end
section
namespace Go.Proofs.YthkpghhoffihmaaGreatDoor
theorem textQ_tq (x:Rat):textQ x=strN (tqL x):=by
 unfold textQ tqL
 split
 · rfl
 · rw [show (⟨#[47]⟩:ByteArray)=strN [47] from rfl,textN,textN,strN_app,strN_app]
   rfl
end Go.Proofs.YthkpghhoffihmaaGreatDoor
namespace Go.Proofs.YthkpghhoffihmaaGreatDoor.Y
open Go Go.RowKit
set_option maxRecDepth 100000
abbrev stV (xs:List Nat):SV:=.one (.c (.b (.v (.string (strN xs)))))
theorem st_ix {xs:List Nat} (h8:B8 xs) {i x:Nat} (hi:i<xs.length) (hx:xs.getD i 0=x) (a b:Operand) (ρ:Operand→Value) (o:Oper) (w:World) (ho:o.op=.index 9 a b) (hv:(Op.index 9 a b).operands.toList.map ρ=[.string (strN xs),.int .i64 (i:Int)]):(execOp ρ o).run Tryz.prog w=.ok (.value (.int .u8 (x:Int))) w:=by
 have h3:ρ a=.string (strN xs)∧ρ b=.int .i64 (i:Int):=by simpa [Op.operands] using hv
 unfold execOp
 rw [ho]
 dsimp only
 rw [h3.1,h3.2]
 have hs:i<(strN xs).size:=by rw [strN_size]; exact hi
 have h4:=run_index_string (P:=Tryz.prog) w 9 (strN xs) .i64 (i:Int) Tryz.underlying9
 rw [dif_pos ⟨by omega,by omega⟩] at h4
 simp only [Int.toNat_natCast] at h4
 rw [strN_at h8 hs,hx] at h4
 simp [go_sem,h4]
def eStI {xs:List Nat} (h8:B8 xs) {i x:Nat} (hi:i<xs.length) (hx:xs.getD i 0=x):Ev Tryz.prog:=.dyn (fun o _ _=>match o.op with
 | .index t _ _=>Nat.beq t 9
 | _=>false) fun o _ _=>match o.op with
 | .index _ a b=>.gen (o.dst.getD 0) (.index 9 a b) [.string (strN xs),.int .i64 (i:Int)] (.int .u8 (x:Int)) (fun ρ o w ho hv=>st_ix h8 hi hx a b ρ o w ho hv)
 | _=>.cut
theorem st_dr {xs:List Nat} {k:Nat} (hk:k≤xs.length) (a b:Operand) (ρ:Operand→Value) (o:Oper) (w:World) (ho:o.op=.slice 9 a (some b) none none) (hv:(Op.slice 9 a (some b) none none).operands.toList.map ρ=[.string (strN xs),.int .i64 (k:Int)]):(execOp ρ o).run Tryz.prog w=.ok (.value (.string (strN (xs.drop k)))) w:=by
 have h3:ρ a=.string (strN xs)∧ρ b=.int .i64 (k:Int):=by simpa [Op.operands] using hv
 unfold execOp
 rw [ho]
 dsimp only
 rw [h3.1]
 have h4:=run_slice_string_from_if (P:=Tryz.prog) (w:=w) 9 (strN xs) .i64 (k:Int) Tryz.underlying9
 rw [if_pos ⟨by omega,by rw [strN_size]; omega⟩,strN_ext,strN_size,Int.toNat_natCast,List.take_of_length_le (by rw [List.length_drop]; exact Nat.le_refl _)] at h4
 have h5:=run_sliceAt_string (P:=Tryz.prog) (w:=w) 9 (.string (strN xs)) (some (.int .i64 (k:Int))) none none Tryz.underlying9
 rw [h4] at h5
 simp [h3.2,go_sem,h5]
def eStD (xs:List Nat) {k:Nat} (hk:k≤xs.length):Ev Tryz.prog:=.dyn (fun o _ _=>match o.op with
 | .slice t _ (some _) none none=>Nat.beq t 9
 | _=>false) fun o _ _=>match o.op with
 | .slice _ a (some b) none none=>.gen (o.dst.getD 0) (.slice 9 a (some b) none none) [.string (strN xs),.int .i64 (k:Int)] (.string (strN (xs.drop k))) (fun ρ o w ho hv=>st_dr hk a b ρ o w ho hv)
 | _=>.cut
theorem st_tk {xs:List Nat} {k:Nat} (hk:k≤xs.length) (a b:Operand) (ρ:Operand→Value) (o:Oper) (w:World) (ho:o.op=.slice 9 a none (some b) none) (hv:(Op.slice 9 a none (some b) none).operands.toList.map ρ=[.string (strN xs),.int .i64 (k:Int)]):(execOp ρ o).run Tryz.prog w=.ok (.value (.string (strN (xs.take k)))) w:=by
 have h3:ρ a=.string (strN xs)∧ρ b=.int .i64 (k:Int):=by simpa [Op.operands] using hv
 unfold execOp
 rw [ho]
 dsimp only
 rw [h3.1]
 have h4:=run_slice_string_to_if (P:=Tryz.prog) (w:=w) 9 (strN xs) .i64 (k:Int) Tryz.underlying9
 rw [if_pos ⟨by omega,by rw [strN_size]; omega⟩,strN_ext,List.drop_zero,Nat.sub_zero,Int.toNat_natCast] at h4
 have h5:=run_sliceAt_string (P:=Tryz.prog) (w:=w) 9 (.string (strN xs)) none (some (.int .i64 (k:Int))) none Tryz.underlying9
 rw [h4] at h5
 simp [h3.2,go_sem,h5]
def eStT (xs:List Nat) {k:Nat} (hk:k≤xs.length):Ev Tryz.prog:=.dyn (fun o _ _=>match o.op with
 | .slice t _ none (some _) none=>Nat.beq t 9
 | _=>false) fun o _ _=>match o.op with
 | .slice _ a none (some b) none=>.gen (o.dst.getD 0) (.slice 9 a none (some b) none) [.string (strN xs),.int .i64 (k:Int)] (.string (strN (xs.take k))) (fun ρ o w ho hv=>st_tk hk a b ρ o w ho hv)
 | _=>.cut
theorem tx_ne {a b:ByteArray} {r:Bool} (h:decide (a=b)=r) {u:TypeId} (x y:Operand) (ρ:Operand→Value) (o:Oper) (w:World) (ho:o.op=.binOp .neq 9 x y u) (hx:(Op.binOp .neq 9 x y u).operands.toList.map ρ=[.string a,.string b]):(execOp ρ o).run Tryz.prog w=.ok (.value (.bool (!r))) w:=by
 have h3:ρ x=.string a∧ρ y=.string b:=by simpa [Op.operands] using hx
 unfold execOp
 rw [ho]
 dsimp only
 rw [h3.1,h3.2,← h]
 simp [go_sem,binOp,Op.stringOp]
 rw [Bool.eq_iff_iff,beq_iff_eq,decide_eq_true_iff,toList_inj]
def eStrNe (a b:ByteArray) {r:Bool} (h:decide (a=b)=r):Ev Tryz.prog:=.dyn (fun o _ _=>match o.op with
 | .binOp .neq t _ _ _=>Nat.beq t 9
 | _=>false) fun o _ _=>match o.op with
 | .binOp .neq _ x y u=>.gen (o.dst.getD 0) (.binOp .neq 9 x y u) [.string a,.string b] (.bool (!r)) (fun ρ o w ho hx=>tx_ne h x y ρ o w ho hx)
 | _=>.cut
end Go.Proofs.YthkpghhoffihmaaGreatDoor.Y
end
