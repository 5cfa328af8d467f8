/- RatB, RatC, RatD, Fr, Fs. -/
import Derived.Test.YthkpghhoffihmaaGreatDoorGk4
set_option linter.unnecessarySimpa false
set_option linter.unusedVariables false
set_option linter.unusedSimpArgs false
section
namespace Go.Proofs.YthkpghhoffihmaaGreatDoor
open Go.RowKit
def wl (n:Int):Nat:=(dig n.natAbs).length
theorem wl_mul (n m:Int):wl (n*m)≤wl n+wl m:=by
 unfold wl
 refine dig_len_le _ _ ?_
 rw [Int.natAbs_mul,Nat.pow_add]
 exact Nat.mul_lt_mul'' (dig_lt _) (dig_lt _)
theorem wl_add (n m:Int):wl (n+m)≤max (wl n) (wl m)+1:=by
 unfold wl
 refine dig_len_le _ _ ?_
 have h1:=dig_lt n.natAbs
 have h2:=dig_lt m.natAbs
 have h3:4294967296^(dig n.natAbs).length≤4294967296^(max (dig n.natAbs).length (dig m.natAbs).length):=Nat.pow_le_pow_right (by decide) (Nat.le_max_left _ _)
 have h4:4294967296^(dig m.natAbs).length≤4294967296^(max (dig n.natAbs).length (dig m.natAbs).length):=Nat.pow_le_pow_right (by decide) (Nat.le_max_right _ _)
 have h5:=Int.natAbs_add_le n m
 rw [Nat.pow_succ]
 generalize 4294967296^(max (dig n.natAbs).length (dig m.natAbs).length)=M at *
 omega
theorem wl_neg (n:Int):wl (-n)=wl n:=by simp [wl]
theorem wl_sub (n m:Int):wl (n-m)≤max (wl n) (wl m)+1:=by
 have:=wl_add n (-m)
 rw [wl_neg] at this
 rwa [Int.sub_eq_add_neg]
def OkR (q:Rat):Prop:=wl q.num≤1073741824∧wl q.den≤1073741824
theorem OkR.num {q:Rat} (h:OkR q):Okn q.num:=Nat.le_trans h.1 (by decide)
theorem OkR.den {q:Rat} (h:OkR q):Okn q.den:=Nat.le_trans h.2 (by decide)
theorem okn_mul {n m:Int} (h:wl n≤1073741824) (k:wl m≤1073741824):Okn (n*m):=by
 have:=wl_mul n m
 show wl _≤_
 omega
theorem okn_add {n m a b:Int} (h:wl n≤1073741824) (k:wl m≤1073741824) (h':wl a≤1073741824) (k':wl b≤1073741824):Okn (n*m+a*b):=by
 have h1:=wl_mul n m
 have h2:=wl_mul a b
 have h3:=wl_add (n*m) (a*b)
 show wl _≤_
 omega
theorem okn_sub {n m a b:Int} (h:wl n≤1073741824) (k:wl m≤1073741824) (h':wl a≤1073741824) (k':wl b≤1073741824):Okn (n*m-a*b):=by
 have h1:=wl_mul n m
 have h2:=wl_mul a b
 have h3:=wl_sub (n*m) (a*b)
 show wl _≤_
 omega
theorem RatAt.num {w:World} {b o:Nat} {q:Rat} (h:RatAt w b o q):IntAt w b o q.num:=h.2.1
theorem den_ne (x:Rat):(x.den:Int)≠0:=by have:=x.den_pos; omega
theorem divInt_mul (x y:Rat):Rat.divInt (x.num*y.num) ((x.den:Int)*y.den)=x*y:=by
 rw [← Rat.divInt_mul_divInt,Rat.num_divInt_den,Rat.num_divInt_den]
set_option maxHeartbeats 1600000 in
set_option maxRecDepth 100000 in
theorem rMul_any {w:World} {b o c p d q:Nat} {x y:Rat} (hz:Slot w b o 4) (hx:RatAt w c p x) (hy:RatAt w d q y) (kx:OkR x) (ky:OkR y) :
  Calls Tryz.prog 136 #[.pointer (some ⟨b,o,none⟩),.pointer (some ⟨c,p,none⟩),.pointer (some ⟨d,q,none⟩)] w fun e w'=>e=.returned (.pointer (some ⟨b,o,none⟩))∧RatAt w' b o (x*y)∧Touch w w' b o 4:=by
 have HX:=Lib.hid hx
 have HY:=Lib.hid hy
 have HZ:=Lib.hid hz
 have KX:=Lib.hid kx
 have KY:=Lib.hid ky
 clear hx hy hz kx ky
 go_enter Tryz.func136,Tryz.ntmps136
 go_wp2
 refine wp_region_ghost 15 (GC w.heap.size w [1,9,11,13]) (fun γ wq _ wr=>GE w.heap.size [(1,8),(9,14)] γ wq wr) (fun i γ wq v=>match i with
   | 0=>v=.pointer (some ⟨b,o,none⟩)
   | 1=>VA w.heap.size wq v
   | 2=>v=.pointer (some ⟨c,p,none⟩)
   | 3=>v=.pointer (some ⟨c,p,none⟩)
   | 4=>v=.pointer (some ⟨c,p,none⟩)
   | 5=>v=.pointer (some ⟨d,q,none⟩)
   | 6=>v=.pointer (some ⟨d,q,none⟩)
   | 7=>v=.pointer (some ⟨d,q,none⟩)
   | 8=>VM w.heap.size 1 (x.num*y.num) γ wq v
   | 9=>VA w.heap.size wq v
   | 10=>v=.pointer (some ⟨c,p,none⟩)
   | 11=>VD ((x).den:Int) wq v
   | 12=>v=.pointer (some ⟨d,q,none⟩)
   | 13=>VD ((y).den:Int) wq v
   | 14=>VM w.heap.size 9 ((x.den:Int)*y.den) γ wq v
   | _=>True) (by kernel_rfl) (by kernel_rfl) (by kernel_rfl) (GC.start _ (Nat.le_refl _)) ?_ ⟨?_,?_,?_,?_,?_,?_,?_,?_,?_,?_,?_,?_,?_,?_,?_,trivial⟩ ?_
 · intro i γ w1 k xq w2 v hC hC2 hE hk hi hV
   match i with
   | 0=>exact hV
   | 1=>exact VA.stable hV hE
   | 2=>exact hV
   | 3=>exact hV
   | 4=>exact hV
   | 5=>exact hV
   | 6=>exact hV
   | 7=>exact hV
   | 8=>exact VM.stable 8 k hV hC hE hk hi rfl
   | 9=>exact VA.stable hV hE
   | 10=>exact hV
   | 11=>exact VD.stable 11 hV hC hE hi rfl
   | 12=>exact hV
   | 13=>exact VD.stable 13 hV hC hE hi rfl
   | 14=>exact VM.stable 14 k hV hC hE hk hi rfl
   | _+15=>trivial
 · intro a' γ w' hag hC hk hd K hK
   have e0:a'.tmps.getD 0 undef=.pointer (some ⟨b,o,none⟩):=hag 0 rfl
   go_step
   exact hK _ _ (hC.step 0 _ rfl (Below.refl _ _)) (GE.refl _ _ _ _) rfl
 · intro a' γ w' hag hC hk hd K hK
   have hb:Below w'.heap.size w' (w'.alloc (.cells #[.bool false,.slice none 0 0] 177)):=(Below.refl _ _).alloc (Nat.le_refl _) _
   have HK:=Lib.hid (hK (.pointer (some ⟨w'.heap.size,0,none⟩)) _ (hC.own 1 _ _ hb (IntAt.new w').lt (.inr (Nat.le_refl _))) (GE.below _ _ hb) ⟨_,rfl,hC.size,(IntAt.new w').slot⟩)
   clear hb hK hC
   go_step
   exact HK.out
 · intro a' γ w' hag hC hk hd K hK
   have e1:a'.tmps.getD 1 undef=.pointer (some ⟨c,p,none⟩):=hag 1 rfl
   go_step
   exact hK _ _ (hC.step 2 _ rfl (Below.refl _ _)) (GE.refl _ _ _ _) rfl
 · intro a' γ w' hag hC hk hd K hK
   have e9:a'.tmps.getD 9 undef=.pointer (some ⟨c,p,none⟩):=hd.1.2
   go_step
   exact hK _ _ (hC.step 3 _ rfl (Below.refl _ _)) (GE.refl _ _ _ _) rfl
 · intro a' γ w' hag hC hk hd K hK
   have e10:a'.tmps.getD 10 undef=.pointer (some ⟨c,p,none⟩):=hd.1.2
   go_step
   exact hK _ _ (hC.step 4 _ rfl (Below.refl _ _)) (GE.refl _ _ _ _) rfl
 · intro a' γ w' hag hC hk hd K hK
   have e2:a'.tmps.getD 2 undef=.pointer (some ⟨d,q,none⟩):=hag 2 rfl
   go_step
   exact hK _ _ (hC.step 5 _ rfl (Below.refl _ _)) (GE.refl _ _ _ _) rfl
 · intro a' γ w' hag hC hk hd K hK
   have e12:a'.tmps.getD 12 undef=.pointer (some ⟨d,q,none⟩):=hd.1.2
   go_step
   exact hK _ _ (hC.step 6 _ rfl (Below.refl _ _)) (GE.refl _ _ _ _) rfl
 · intro a' γ w' hag hC hk hd K hK
   have e13:a'.tmps.getD 13 undef=.pointer (some ⟨d,q,none⟩):=hd.1.2
   go_step
   exact hK _ _ (hC.step 7 _ rfl (Below.refl _ _)) (GE.refl _ _ _ _) rfl
 · intro a' γ w' hag hC hk hd K hK
   have q8:VA w.heap.size w' (a'.tmps.getD 8 undef):=hd.1.2
   have gg8:γ 1=some (a'.tmps.getD 8 undef):=hd.1.1
   obtain ⟨g8,e8,hb8,hs8⟩:=q8
   rw [e8] at gg8
   have e8:a'.tmps.getD 8 undef=.pointer (some ⟨g8,0,none⟩):=e8
   have e11:a'.tmps.getD 11 undef=.pointer (some ⟨c,p,none⟩):=hd.2.1.2
   have e14:a'.tmps.getD 14 undef=.pointer (some ⟨d,q,none⟩):=hd.2.2.1.2
   have hx:=Lib.hid (mul_any hs8 (HX.out.on hC.below).num (HY.out.on hC.below).num KX.out.num KY.out.num)
   go_step
   refine hx.out.mono ?_
   rintro e w2 ⟨rfl,h1,h2⟩
   exact hK _ _ (hC.step 8 _ rfl (h2.below hb8 hC.size)) (GE.write 1 8 rfl hs8 h2 gg8 hk hb8) ⟨_,rfl,upd_some gg8 hk,hb8,h1⟩
 · intro a' γ w' hag hC hk hd K hK
   have hb:Below w'.heap.size w' (w'.alloc (.cells #[.bool false,.slice none 0 0] 177)):=(Below.refl _ _).alloc (Nat.le_refl _) _
   have HK:=Lib.hid (hK (.pointer (some ⟨w'.heap.size,0,none⟩)) _ (hC.own 9 _ _ hb (IntAt.new w').lt (.inr (Nat.le_refl _))) (GE.below _ _ hb) ⟨_,rfl,hC.size,(IntAt.new w').slot⟩)
   clear hb hK hC
   go_step
   exact HK.out
 · intro a' γ w' hag hC hk hd K hK
   have e1:a'.tmps.getD 1 undef=.pointer (some ⟨c,p,none⟩):=hag 1 rfl
   go_step
   exact hK _ _ (hC.step 10 _ rfl (Below.refl _ _)) (GE.refl _ _ _ _) rfl
 · intro a' γ w' hag hC hk hd K hK
   have e17:a'.tmps.getD 17 undef=.pointer (some ⟨c,p,none⟩):=hd.1.2
   have hx:=HX.out.on hC.below
   go_step
   refine (den_any hx).mono ?_
   rintro e w2 ⟨g,j,rfl,h1,h2,h3⟩
   exact hK _ _ (hC.own 11 _ _ h2 h1.lt (h3.imp (fun e=>by rw [e]; exact HX.out.lt) id)) (GE.below _ _ h2) ⟨_,_,rfl,h1⟩
 · intro a' γ w' hag hC hk hd K hK
   have e2:a'.tmps.getD 2 undef=.pointer (some ⟨d,q,none⟩):=hag 2 rfl
   go_step
   exact hK _ _ (hC.step 12 _ rfl (Below.refl _ _)) (GE.refl _ _ _ _) rfl
 · intro a' γ w' hag hC hk hd K hK
   have e19:a'.tmps.getD 19 undef=.pointer (some ⟨d,q,none⟩):=hd.1.2
   have hx:=HY.out.on hC.below
   go_step
   refine (den_any hx).mono ?_
   rintro e w2 ⟨g,j,rfl,h1,h2,h3⟩
   exact hK _ _ (hC.own 13 _ _ h2 h1.lt (h3.imp (fun e=>by rw [e]; exact HY.out.lt) id)) (GE.below _ _ h2) ⟨_,_,rfl,h1⟩
 · intro a' γ w' hag hC hk hd K hK
   have q16:VA w.heap.size w' (a'.tmps.getD 16 undef):=hd.1.2
   have gg16:γ 9=some (a'.tmps.getD 16 undef):=hd.1.1
   obtain ⟨g16,e16,hb16,hs16⟩:=q16
   rw [e16] at gg16
   have e16:a'.tmps.getD 16 undef=.pointer (some ⟨g16,0,none⟩):=e16
   have q18:VD ((x).den:Int) w' (a'.tmps.getD 18 undef):=hd.2.1.2
   have gg18:γ 11=some (a'.tmps.getD 18 undef):=hd.2.1.1
   obtain ⟨g18,i18,e18,h18⟩:=q18
   rw [e18] at gg18
   have e18:a'.tmps.getD 18 undef=.pointer (some ⟨g18,i18,none⟩):=e18
   have q20:VD ((y).den:Int) w' (a'.tmps.getD 20 undef):=hd.2.2.1.2
   have gg20:γ 13=some (a'.tmps.getD 20 undef):=hd.2.2.1.1
   obtain ⟨g20,i20,e20,h20⟩:=q20
   rw [e20] at gg20
   have e20:a'.tmps.getD 20 undef=.pointer (some ⟨g20,i20,none⟩):=e20
   have hx:=Lib.hid (mul_any hs16 h18 h20 KX.out.den KY.out.den)
   go_step
   refine hx.out.mono ?_
   rintro e w2 ⟨rfl,h1,h2⟩
   exact hK _ _ (hC.step 14 _ rfl (h2.below hb16 hC.size)) (GE.write 9 14 rfl hs16 h2 gg16 hk hb16) ⟨_,rfl,upd_some gg16 hk,hb16,h1⟩
 · intro γ u w' hC hgh hall
   obtain ⟨u0,u1,u2,u3,u4,u5,u6,u7,u8,u9,u10,u11,u12,u13,u14,_⟩:=hall
   have u0:u 0=.pointer (some ⟨b,o,none⟩):=u0
   have u2:u 2=.pointer (some ⟨c,p,none⟩):=u2
   have u3:u 3=.pointer (some ⟨c,p,none⟩):=u3
   have u4:u 4=.pointer (some ⟨c,p,none⟩):=u4
   have u5:u 5=.pointer (some ⟨d,q,none⟩):=u5
   have u6:u 6=.pointer (some ⟨d,q,none⟩):=u6
   have u7:u 7=.pointer (some ⟨d,q,none⟩):=u7
   obtain ⟨g15,eu8,ga15,hb15,h15⟩:=u8
   have u8:u 8=.pointer (some ⟨g15,0,none⟩):=eu8
   have u10:u 10=.pointer (some ⟨c,p,none⟩):=u10
   have u12:u 12=.pointer (some ⟨d,q,none⟩):=u12
   obtain ⟨g21,eu14,ga21,hb21,h21⟩:=u14
   have u14:u 14=.pointer (some ⟨g21,0,none⟩):=eu14
   simp only [fillR,List.take_succ_cons,List.take_zero,Act.put,List.setIfInBounds_toArray,List.set_cons_succ,List.set_cons_zero,Nat.zero_add,Nat.reduceAdd,u0,u2,u3,u4,u5,u6,u7,u8,u10,u12,u14]
   clear u0 u2 u3 u4 u5 u6 u7 u8 u10 u12 u14
   have HC:=Lib.hid hC
   have H15:=Lib.hid h15
   have H21:=Lib.hid h21
   clear hC h15 h21 ga15 ga21 hb15 hb21
   go_wp2_with fail
   refine (SetFrac_any (HZ.out.on HC.out.below) H15.out H21.out (Int.mul_ne_zero (den_ne x) (den_ne y)) (okn_mul KX.out.1 KY.out.1) (okn_mul KX.out.2 KY.out.2)).mono ?_
   rintro e w3 ⟨rfl,h1,h2⟩
   rw [divInt_mul] at h1
   have H1:=Lib.hid h1
   have HT:=Lib.hid ((Touch.of_below HC.out.below b o 4).trans h2)
   clear h1 h2
   go_wp2
   go_ret
   exact ⟨rfl,H1.out,HT.out⟩
theorem divInt_quo (x y:Rat):Rat.divInt (x.num*(y.den:Int)) ((x.den:Int)*y.num)=x/y:=by
 rw [← Rat.divInt_mul_divInt,Rat.num_divInt_den,← Rat.inv_def,Rat.div_def]
set_option maxHeartbeats 1600000 in
set_option maxRecDepth 100000 in
theorem rQuo_any {w:World} {b o c p d q:Nat} {x y:Rat} (hz:Slot w b o 4) (hx:RatAt w c p x) (hy:RatAt w d q y) (kx:OkR x) (ky:OkR y) (h0:y≠0) :
  Calls Tryz.prog 163 #[.pointer (some ⟨b,o,none⟩),.pointer (some ⟨c,p,none⟩),.pointer (some ⟨d,q,none⟩)] w fun e w'=>e=.returned (.pointer (some ⟨b,o,none⟩))∧RatAt w' b o (x/y)∧Touch w w' b o 4:=by
 have HX:=Lib.hid hx
 have HY:=Lib.hid hy
 have HZ:=Lib.hid hz
 have KX:=Lib.hid kx
 have KY:=Lib.hid ky
 have HN0:Hid (y.num≠0):=fun h=>h0 (Rat.num_eq_zero.1 h)
 clear hx hy hz kx ky h0
 go_enter Tryz.func163,Tryz.ntmps163
 go_wp2
 refine wp_region_ghost 15 (GC w.heap.size w [1,6,8,10]) (fun γ wq _ wr=>GE w.heap.size [(1,7),(8,14)] γ wq wr) (fun i γ wq v=>match i with
   | 0=>v=.pointer (some ⟨b,o,none⟩)
   | 1=>VA w.heap.size wq v
   | 2=>v=.pointer (some ⟨c,p,none⟩)
   | 3=>v=.pointer (some ⟨c,p,none⟩)
   | 4=>v=.pointer (some ⟨c,p,none⟩)
   | 5=>v=.pointer (some ⟨d,q,none⟩)
   | 6=>VD ((y).den:Int) wq v
   | 7=>VM w.heap.size 1 (x.num*(y.den:Int)) γ wq v
   | 8=>VA w.heap.size wq v
   | 9=>v=.pointer (some ⟨c,p,none⟩)
   | 10=>VD ((x).den:Int) wq v
   | 11=>v=.pointer (some ⟨d,q,none⟩)
   | 12=>v=.pointer (some ⟨d,q,none⟩)
   | 13=>v=.pointer (some ⟨d,q,none⟩)
   | 14=>VM w.heap.size 8 ((x.den:Int)*y.num) γ wq v
   | _=>True) (by kernel_rfl) (by kernel_rfl) (by kernel_rfl) (GC.start _ (Nat.le_refl _)) ?_ ⟨?_,?_,?_,?_,?_,?_,?_,?_,?_,?_,?_,?_,?_,?_,?_,trivial⟩ ?_
 · intro i γ w1 k xq w2 v hC hC2 hE hk hi hV
   match i with
   | 0=>exact hV
   | 1=>exact VA.stable hV hE
   | 2=>exact hV
   | 3=>exact hV
   | 4=>exact hV
   | 5=>exact hV
   | 6=>exact VD.stable 6 hV hC hE hi rfl
   | 7=>exact VM.stable 7 k hV hC hE hk hi rfl
   | 8=>exact VA.stable hV hE
   | 9=>exact hV
   | 10=>exact VD.stable 10 hV hC hE hi rfl
   | 11=>exact hV
   | 12=>exact hV
   | 13=>exact hV
   | 14=>exact VM.stable 14 k hV hC hE hk hi rfl
   | _+15=>trivial
 · intro a' γ w' hag hC hk hd K hK
   have e0:a'.tmps.getD 0 undef=.pointer (some ⟨b,o,none⟩):=hag 0 rfl
   go_step
   exact hK _ _ (hC.step 0 _ rfl (Below.refl _ _)) (GE.refl _ _ _ _) rfl
 · intro a' γ w' hag hC hk hd K hK
   have hb:Below w'.heap.size w' (w'.alloc (.cells #[.bool false,.slice none 0 0] 177)):=(Below.refl _ _).alloc (Nat.le_refl _) _
   have HK:=Lib.hid (hK (.pointer (some ⟨w'.heap.size,0,none⟩)) _ (hC.own 1 _ _ hb (IntAt.new w').lt (.inr (Nat.le_refl _))) (GE.below _ _ hb) ⟨_,rfl,hC.size,(IntAt.new w').slot⟩)
   clear hb hK hC
   go_step
   exact HK.out
 · intro a' γ w' hag hC hk hd K hK
   have e1:a'.tmps.getD 1 undef=.pointer (some ⟨c,p,none⟩):=hag 1 rfl
   go_step
   exact hK _ _ (hC.step 2 _ rfl (Below.refl _ _)) (GE.refl _ _ _ _) rfl
 · intro a' γ w' hag hC hk hd K hK
   have e9:a'.tmps.getD 9 undef=.pointer (some ⟨c,p,none⟩):=hd.1.2
   go_step
   exact hK _ _ (hC.step 3 _ rfl (Below.refl _ _)) (GE.refl _ _ _ _) rfl
 · intro a' γ w' hag hC hk hd K hK
   have e10:a'.tmps.getD 10 undef=.pointer (some ⟨c,p,none⟩):=hd.1.2
   go_step
   exact hK _ _ (hC.step 4 _ rfl (Below.refl _ _)) (GE.refl _ _ _ _) rfl
 · intro a' γ w' hag hC hk hd K hK
   have e2:a'.tmps.getD 2 undef=.pointer (some ⟨d,q,none⟩):=hag 2 rfl
   go_step
   exact hK _ _ (hC.step 5 _ rfl (Below.refl _ _)) (GE.refl _ _ _ _) rfl
 · intro a' γ w' hag hC hk hd K hK
   have e12:a'.tmps.getD 12 undef=.pointer (some ⟨d,q,none⟩):=hd.1.2
   have hx:=HY.out.on hC.below
   go_step
   refine (den_any hx).mono ?_
   rintro e w2 ⟨g,j,rfl,h1,h2,h3⟩
   exact hK _ _ (hC.own 6 _ _ h2 h1.lt (h3.imp (fun e=>by rw [e]; exact HY.out.lt) id)) (GE.below _ _ h2) ⟨_,_,rfl,h1⟩
 · intro a' γ w' hag hC hk hd K hK
   have q8:VA w.heap.size w' (a'.tmps.getD 8 undef):=hd.1.2
   have gg8:γ 1=some (a'.tmps.getD 8 undef):=hd.1.1
   obtain ⟨g8,e8,hb8,hs8⟩:=q8
   rw [e8] at gg8
   have e8:a'.tmps.getD 8 undef=.pointer (some ⟨g8,0,none⟩):=e8
   have e11:a'.tmps.getD 11 undef=.pointer (some ⟨c,p,none⟩):=hd.2.1.2
   have q13:VD ((y).den:Int) w' (a'.tmps.getD 13 undef):=hd.2.2.1.2
   have gg13:γ 6=some (a'.tmps.getD 13 undef):=hd.2.2.1.1
   obtain ⟨g13,i13,e13,h13⟩:=q13
   rw [e13] at gg13
   have e13:a'.tmps.getD 13 undef=.pointer (some ⟨g13,i13,none⟩):=e13
   have hx:=Lib.hid (mul_any hs8 (HX.out.on hC.below).num h13 KX.out.num KY.out.den)
   go_step
   refine hx.out.mono ?_
   rintro e w2 ⟨rfl,h1,h2⟩
   exact hK _ _ (hC.step 7 _ rfl (h2.below hb8 hC.size)) (GE.write 1 7 rfl hs8 h2 gg8 hk hb8) ⟨_,rfl,upd_some gg8 hk,hb8,h1⟩
 · intro a' γ w' hag hC hk hd K hK
   have hb:Below w'.heap.size w' (w'.alloc (.cells #[.bool false,.slice none 0 0] 177)):=(Below.refl _ _).alloc (Nat.le_refl _) _
   have HK:=Lib.hid (hK (.pointer (some ⟨w'.heap.size,0,none⟩)) _ (hC.own 8 _ _ hb (IntAt.new w').lt (.inr (Nat.le_refl _))) (GE.below _ _ hb) ⟨_,rfl,hC.size,(IntAt.new w').slot⟩)
   clear hb hK hC
   go_step
   exact HK.out
 · intro a' γ w' hag hC hk hd K hK
   have e1:a'.tmps.getD 1 undef=.pointer (some ⟨c,p,none⟩):=hag 1 rfl
   go_step
   exact hK _ _ (hC.step 9 _ rfl (Below.refl _ _)) (GE.refl _ _ _ _) rfl
 · intro a' γ w' hag hC hk hd K hK
   have e16:a'.tmps.getD 16 undef=.pointer (some ⟨c,p,none⟩):=hd.1.2
   have hx:=HX.out.on hC.below
   go_step
   refine (den_any hx).mono ?_
   rintro e w2 ⟨g,j,rfl,h1,h2,h3⟩
   exact hK _ _ (hC.own 10 _ _ h2 h1.lt (h3.imp (fun e=>by rw [e]; exact HX.out.lt) id)) (GE.below _ _ h2) ⟨_,_,rfl,h1⟩
 · intro a' γ w' hag hC hk hd K hK
   have e2:a'.tmps.getD 2 undef=.pointer (some ⟨d,q,none⟩):=hag 2 rfl
   go_step
   exact hK _ _ (hC.step 11 _ rfl (Below.refl _ _)) (GE.refl _ _ _ _) rfl
 · intro a' γ w' hag hC hk hd K hK
   have e18:a'.tmps.getD 18 undef=.pointer (some ⟨d,q,none⟩):=hd.1.2
   go_step
   exact hK _ _ (hC.step 12 _ rfl (Below.refl _ _)) (GE.refl _ _ _ _) rfl
 · intro a' γ w' hag hC hk hd K hK
   have e19:a'.tmps.getD 19 undef=.pointer (some ⟨d,q,none⟩):=hd.1.2
   go_step
   exact hK _ _ (hC.step 13 _ rfl (Below.refl _ _)) (GE.refl _ _ _ _) rfl
 · intro a' γ w' hag hC hk hd K hK
   have q15:VA w.heap.size w' (a'.tmps.getD 15 undef):=hd.1.2
   have gg15:γ 8=some (a'.tmps.getD 15 undef):=hd.1.1
   obtain ⟨g15,e15,hb15,hs15⟩:=q15
   rw [e15] at gg15
   have e15:a'.tmps.getD 15 undef=.pointer (some ⟨g15,0,none⟩):=e15
   have q17:VD ((x).den:Int) w' (a'.tmps.getD 17 undef):=hd.2.1.2
   have gg17:γ 10=some (a'.tmps.getD 17 undef):=hd.2.1.1
   obtain ⟨g17,i17,e17,h17⟩:=q17
   rw [e17] at gg17
   have e17:a'.tmps.getD 17 undef=.pointer (some ⟨g17,i17,none⟩):=e17
   have e20:a'.tmps.getD 20 undef=.pointer (some ⟨d,q,none⟩):=hd.2.2.1.2
   have hx:=Lib.hid (mul_any hs15 h17 (HY.out.on hC.below).num KX.out.den KY.out.num)
   go_step
   refine hx.out.mono ?_
   rintro e w2 ⟨rfl,h1,h2⟩
   exact hK _ _ (hC.step 14 _ rfl (h2.below hb15 hC.size)) (GE.write 8 14 rfl hs15 h2 gg15 hk hb15) ⟨_,rfl,upd_some gg15 hk,hb15,h1⟩
 · intro γ u w' hC hgh hall
   obtain ⟨u0,u1,u2,u3,u4,u5,u6,u7,u8,u9,u10,u11,u12,u13,u14,_⟩:=hall
   have u0:u 0=.pointer (some ⟨b,o,none⟩):=u0
   have u2:u 2=.pointer (some ⟨c,p,none⟩):=u2
   have u3:u 3=.pointer (some ⟨c,p,none⟩):=u3
   have u4:u 4=.pointer (some ⟨c,p,none⟩):=u4
   have u5:u 5=.pointer (some ⟨d,q,none⟩):=u5
   obtain ⟨g14,eu7,ga14,hb14,h14⟩:=u7
   have u7:u 7=.pointer (some ⟨g14,0,none⟩):=eu7
   have u9:u 9=.pointer (some ⟨c,p,none⟩):=u9
   have u11:u 11=.pointer (some ⟨d,q,none⟩):=u11
   have u12:u 12=.pointer (some ⟨d,q,none⟩):=u12
   have u13:u 13=.pointer (some ⟨d,q,none⟩):=u13
   obtain ⟨g21,eu14,ga21,hb21,h21⟩:=u14
   have u14:u 14=.pointer (some ⟨g21,0,none⟩):=eu14
   simp only [fillR,List.take_succ_cons,List.take_zero,Act.put,List.setIfInBounds_toArray,List.set_cons_succ,List.set_cons_zero,Nat.zero_add,Nat.reduceAdd,u0,u2,u3,u4,u5,u7,u9,u11,u12,u13,u14]
   clear u0 u2 u3 u4 u5 u7 u9 u11 u12 u13 u14
   have HC:=Lib.hid hC
   have H14:=Lib.hid h14
   have H21:=Lib.hid h21
   clear hC h14 h21 ga14 ga21 hb14 hb21
   go_wp2_with fail
   refine (SetFrac_any (HZ.out.on HC.out.below) H14.out H21.out (Int.mul_ne_zero (den_ne x) HN0.out) (okn_mul KX.out.1 KY.out.2) (okn_mul KX.out.2 KY.out.1)).mono ?_
   rintro e w3 ⟨rfl,h1,h2⟩
   rw [divInt_quo] at h1
   have H1:=Lib.hid h1
   have HT:=Lib.hid ((Touch.of_below HC.out.below b o 4).trans h2)
   clear h1 h2
   go_wp2
   go_ret
   exact ⟨rfl,H1.out,HT.out⟩
theorem divInt_Add (x y:Rat):Rat.divInt (x.num*(y.den:Int)+y.num*(x.den:Int)) ((x.den:Int)*(y.den:Int))=x+y:=by
 rw [Rat.add_def',← Int.natCast_mul]; rfl
set_option maxHeartbeats 1600000 in
set_option maxRecDepth 100000 in
theorem rAdd_any {w:World} {b o c p d q:Nat} {x y:Rat} (hz:Slot w b o 4) (hx:RatAt w c p x) (hy:RatAt w d q y) (kx:OkR x) (ky:OkR y) :
  Calls Tryz.prog 135 #[.pointer (some ⟨b,o,none⟩),.pointer (some ⟨c,p,none⟩),.pointer (some ⟨d,q,none⟩)] w fun e w'=>e=.returned (.pointer (some ⟨b,o,none⟩))∧RatAt w' b o (x+y)∧Touch w w' b o 4:=by
 have HX:=Lib.hid hx
 have HY:=Lib.hid hy
 have HZ:=Lib.hid hz
 have KX:=Lib.hid kx
 have KY:=Lib.hid ky
 clear hx hy hz kx ky
 go_enter Tryz.func135,Tryz.ntmps135
 go_wp2
 refine wp_region_ghost 6 (GC w.heap.size w [0,5]) (fun γ wq _ wr=>GE w.heap.size [] γ wq wr) (fun i γ wq v=>match i with
   | 0=>VA w.heap.size wq v
   | 1=>v=.pointer (some ⟨c,p,none⟩)
   | 2=>v=.pointer (some ⟨c,p,none⟩)
   | 3=>v=.pointer (some ⟨c,p,none⟩)
   | 4=>v=.pointer (some ⟨d,q,none⟩)
   | 5=>VD ((y).den:Int) wq v
   | _=>True) (by kernel_rfl) (by kernel_rfl) (by kernel_rfl) (GC.start _ (Nat.le_refl _)) ?_ ⟨?_,?_,?_,?_,?_,?_,trivial⟩ ?_
 · intro i γ w1 k xq w2 v hC hC2 hE hk hi hV
   match i with
   | 0=>exact VA.stable hV hE
   | 1=>exact hV
   | 2=>exact hV
   | 3=>exact hV
   | 4=>exact hV
   | 5=>exact VD.stable 5 hV hC hE hi rfl
   | _+6=>trivial
 · intro a' γ w' hag hC hk hd K hK
   have hb:Below w'.heap.size w' (w'.alloc (.cells #[.bool false,.slice none 0 0] 177)):=(Below.refl _ _).alloc (Nat.le_refl _) _
   have HK:=Lib.hid (hK (.pointer (some ⟨w'.heap.size,0,none⟩)) _ (hC.own 0 _ _ hb (IntAt.new w').lt (.inr (Nat.le_refl _))) (GE.below _ _ hb) ⟨_,rfl,hC.size,(IntAt.new w').slot⟩)
   clear hb hK hC
   go_step
   exact HK.out
 · intro a' γ w' hag hC hk hd K hK
   have e1:a'.tmps.getD 1 undef=.pointer (some ⟨c,p,none⟩):=hag 1 rfl
   go_step
   exact hK _ _ (hC.step 1 _ rfl (Below.refl _ _)) (GE.refl _ _ _ _) rfl
 · intro a' γ w' hag hC hk hd K hK
   have e9:a'.tmps.getD 9 undef=.pointer (some ⟨c,p,none⟩):=hd.1.2
   go_step
   exact hK _ _ (hC.step 2 _ rfl (Below.refl _ _)) (GE.refl _ _ _ _) rfl
 · intro a' γ w' hag hC hk hd K hK
   have e10:a'.tmps.getD 10 undef=.pointer (some ⟨c,p,none⟩):=hd.1.2
   go_step
   exact hK _ _ (hC.step 3 _ rfl (Below.refl _ _)) (GE.refl _ _ _ _) rfl
 · intro a' γ w' hag hC hk hd K hK
   have e2:a'.tmps.getD 2 undef=.pointer (some ⟨d,q,none⟩):=hag 2 rfl
   go_step
   exact hK _ _ (hC.step 4 _ rfl (Below.refl _ _)) (GE.refl _ _ _ _) rfl
 · intro a' γ w' hag hC hk hd K hK
   have e12:a'.tmps.getD 12 undef=.pointer (some ⟨d,q,none⟩):=hd.1.2
   have hx:=HY.out.on hC.below
   go_step
   refine (den_any hx).mono ?_
   rintro e w2 ⟨g,j,rfl,h1,h2,h3⟩
   exact hK _ _ (hC.own 5 _ _ h2 h1.lt (h3.imp (fun e=>by rw [e]; exact HY.out.lt) id)) (GE.below _ _ h2) ⟨_,_,rfl,h1⟩
 · intro γ u w' hC hgh hall
   obtain ⟨u0,u1,u2,u3,u4,u5,_⟩:=hall
   obtain ⟨g8,eu0,hb8,hs8⟩:=u0
   have u0:u 0=.pointer (some ⟨g8,0,none⟩):=eu0
   have u1:u 1=.pointer (some ⟨c,p,none⟩):=u1
   have u2:u 2=.pointer (some ⟨c,p,none⟩):=u2
   have u3:u 3=.pointer (some ⟨c,p,none⟩):=u3
   have u4:u 4=.pointer (some ⟨d,q,none⟩):=u4
   obtain ⟨g13,i13,eu5,h13⟩:=u5
   have u5:u 5=.pointer (some ⟨g13,i13,none⟩):=eu5
   simp only [fillR,List.take_succ_cons,List.take_zero,Act.put,List.setIfInBounds_toArray,List.set_cons_succ,List.set_cons_zero,Nat.zero_add,Nat.reduceAdd,u0,u1,u2,u3,u4,u5]
   clear u0 u1 u2 u3 u4 u5
   have HC:=Lib.hid hC.below
   have HB8:=Lib.hid hb8
   have HS8:=Lib.hid hs8
   have H13:=Lib.hid h13
   have hx1:=HX.out.on HC.out
   clear hC hb8 hs8 h13
   go_wp2_with fail
   refine (mul_any HS8.out hx1.num H13.out KX.out.num KY.out.den).mono ?_
   rintro e w1 ⟨rfl,h1,h2⟩
   have HB1:Hid (Below w.heap.size w w1):=HC.out.trans (h2.below HB8.out HC.out.size)
   have H1:=Lib.hid h1
   clear h1 h2 hx1 H13 HS8 HC
   have HX1:=Lib.hid (HX.out.on HB1.out)
   have HY1:=Lib.hid (HY.out.on HB1.out)
   go_wp2
   refine wp_region_ghost 9 (GC w1.heap.size w1 [2,7]) (fun γ wq _ wr=>GE w1.heap.size [(2,8)] γ wq wr) (fun i γ wq v=>match i with
     | 0=>v=.pointer (some ⟨g8,0,none⟩)
     | 1=>v=.pointer (some ⟨g8,0,none⟩)
     | 2=>VA w1.heap.size wq v
     | 3=>v=.pointer (some ⟨d,q,none⟩)
     | 4=>v=.pointer (some ⟨d,q,none⟩)
     | 5=>v=.pointer (some ⟨d,q,none⟩)
     | 6=>v=.pointer (some ⟨c,p,none⟩)
     | 7=>VD ((x).den:Int) wq v
     | 8=>VM w1.heap.size 2 (y.num*(x.den:Int)) γ wq v
     | _=>True) (by kernel_rfl) (by kernel_rfl) (by kernel_rfl) (GC.start _ (Nat.le_refl _)) ?_ ⟨?_,?_,?_,?_,?_,?_,?_,?_,?_,trivial⟩ ?_
   · intro i γ w1 k xq w2 v hC hC2 hE hk hi hV
     match i with
     | 0=>exact hV
     | 1=>exact hV
     | 2=>exact VA.stable hV hE
     | 3=>exact hV
     | 4=>exact hV
     | 5=>exact hV
     | 6=>exact hV
     | 7=>exact VD.stable 7 hV hC hE hi rfl
     | 8=>exact VM.stable 8 k hV hC hE hk hi rfl
     | _+9=>trivial
   · intro a' γ w' hag hC hk hd K hK
     have e7:a'.tmps.getD 7 undef=.pointer (some ⟨g8,0,none⟩):=hag 7 rfl
     go_step
     exact hK _ _ (hC.step 0 _ rfl (Below.refl _ _)) (GE.refl _ _ _ _) rfl
   · intro a' γ w' hag hC hk hd K hK
     have e7:a'.tmps.getD 7 undef=.pointer (some ⟨g8,0,none⟩):=hag 7 rfl
     go_step
     exact hK _ _ (hC.step 1 _ rfl (Below.refl _ _)) (GE.refl _ _ _ _) rfl
   · intro a' γ w' hag hC hk hd K hK
     have hb:Below w'.heap.size w' (w'.alloc (.cells #[.bool false,.slice none 0 0] 177)):=(Below.refl _ _).alloc (Nat.le_refl _) _
     have HK:=Lib.hid (hK (.pointer (some ⟨w'.heap.size,0,none⟩)) _ (hC.own 2 _ _ hb (IntAt.new w').lt (.inr (Nat.le_refl _))) (GE.below _ _ hb) ⟨_,rfl,hC.size,(IntAt.new w').slot⟩)
     clear hb hK hC
     go_step
     exact HK.out
   · intro a' γ w' hag hC hk hd K hK
     have e2:a'.tmps.getD 2 undef=.pointer (some ⟨d,q,none⟩):=hag 2 rfl
     go_step
     exact hK _ _ (hC.step 3 _ rfl (Below.refl _ _)) (GE.refl _ _ _ _) rfl
   · intro a' γ w' hag hC hk hd K hK
     have e18:a'.tmps.getD 18 undef=.pointer (some ⟨d,q,none⟩):=hd.1.2
     go_step
     exact hK _ _ (hC.step 4 _ rfl (Below.refl _ _)) (GE.refl _ _ _ _) rfl
   · intro a' γ w' hag hC hk hd K hK
     have e19:a'.tmps.getD 19 undef=.pointer (some ⟨d,q,none⟩):=hd.1.2
     go_step
     exact hK _ _ (hC.step 5 _ rfl (Below.refl _ _)) (GE.refl _ _ _ _) rfl
   · intro a' γ w' hag hC hk hd K hK
     have e1:a'.tmps.getD 1 undef=.pointer (some ⟨c,p,none⟩):=hag 1 rfl
     go_step
     exact hK _ _ (hC.step 6 _ rfl (Below.refl _ _)) (GE.refl _ _ _ _) rfl
   · intro a' γ w' hag hC hk hd K hK
     have e21:a'.tmps.getD 21 undef=.pointer (some ⟨c,p,none⟩):=hd.1.2
     have hx:=HX1.out.on hC.below
     go_step
     refine (den_any hx).mono ?_
     rintro e w2 ⟨g,j,rfl,h1,h2,h3⟩
     exact hK _ _ (hC.own 7 _ _ h2 h1.lt (h3.imp (fun e=>by rw [e]; exact HX1.out.lt) id)) (GE.below _ _ h2) ⟨_,_,rfl,h1⟩
   · intro a' γ w' hag hC hk hd K hK
     have q17:VA w1.heap.size w' (a'.tmps.getD 17 undef):=hd.1.2
     have gg17:γ 2=some (a'.tmps.getD 17 undef):=hd.1.1
     obtain ⟨g17,e17,hb17,hs17⟩:=q17
     rw [e17] at gg17
     have e17:a'.tmps.getD 17 undef=.pointer (some ⟨g17,0,none⟩):=e17
     have e20:a'.tmps.getD 20 undef=.pointer (some ⟨d,q,none⟩):=hd.2.1.2
     have q22:VD ((x).den:Int) w' (a'.tmps.getD 22 undef):=hd.2.2.1.2
     have gg22:γ 7=some (a'.tmps.getD 22 undef):=hd.2.2.1.1
     obtain ⟨g22,i22,e22,h22⟩:=q22
     rw [e22] at gg22
     have e22:a'.tmps.getD 22 undef=.pointer (some ⟨g22,i22,none⟩):=e22
     have hx:=Lib.hid (mul_any hs17 (HY1.out.on hC.below).num h22 KY.out.num KX.out.den)
     go_step
     refine hx.out.mono ?_
     rintro e w2 ⟨rfl,h1,h2⟩
     exact hK _ _ (hC.step 8 _ rfl (h2.below hb17 hC.size)) (GE.write 2 8 rfl hs17 h2 gg17 hk hb17) ⟨_,rfl,upd_some gg17 hk,hb17,h1⟩
   · intro γ u w' hC hgh hall
     obtain ⟨u0,u1,u2,u3,u4,u5,u6,u7,u8,_⟩:=hall
     have u0:u 0=.pointer (some ⟨g8,0,none⟩):=u0
     have u1:u 1=.pointer (some ⟨g8,0,none⟩):=u1
     have u3:u 3=.pointer (some ⟨d,q,none⟩):=u3
     have u4:u 4=.pointer (some ⟨d,q,none⟩):=u4
     have u5:u 5=.pointer (some ⟨d,q,none⟩):=u5
     have u6:u 6=.pointer (some ⟨c,p,none⟩):=u6
     obtain ⟨g23,eu8,ga23,hb23,h23⟩:=u8
     have u8:u 8=.pointer (some ⟨g23,0,none⟩):=eu8
     simp only [fillR,List.take_succ_cons,List.take_zero,Act.put,List.setIfInBounds_toArray,List.set_cons_succ,List.set_cons_zero,Nat.zero_add,Nat.reduceAdd,u0,u1,u3,u4,u5,u6,u8]
     clear u0 u1 u3 u4 u5 u6 u8
     have HC2:=Lib.hid hC.below
     have H23:=Lib.hid h23
     have h1':=H1.out.on HC2.out
     clear hC h23 ga23 hb23
     go_wp2_with fail
     refine (Add_any h1'.slot h1' H23.out (okn_mul KX.out.1 KY.out.2) (okn_mul KY.out.1 KX.out.2)).mono ?_
     rintro e w3 ⟨rfl,h2,h3⟩
     have HB3:Hid (Below w.heap.size w w3):=(HB1.out.trans (HC2.out.mono HB1.out.size)).trans (h3.below HB8.out (Nat.le_trans HB1.out.size HC2.out.size))
     have HN:=Lib.hid h2
     clear h1' h2 h3 H23 HC2 HX1 HY1 HB1 H1
     have ha:Below w3.heap.size w3 (w3.alloc (.cells #[.bool false,.slice none 0 0] 177)):=(Below.refl _ _).alloc (Nat.le_refl _) _
     have hx3:=(HX.out.on HB3.out).on ha
     go_wp2_with fail
     refine (den_any hx3).mono ?_
     rintro e w4 ⟨gx,ix,rfl,h1,h2,h3⟩
     have hb4:=ha.trans (h2.mono ha.size)
     have HB4:=Lib.hid hb4
     have HDX:=Lib.hid h1
     have HNX:Hid (gx≠w3.heap.size):=by
      have h4:=ha.size
      have h5:=HX.out.lt
      have h6:=HB3.out.size
      have h7:(w3.alloc (.cells #[.bool false,.slice none 0 0] 177)).heap.size=w3.heap.size+1:=by simp [World.alloc_eq]
      unfold Hid
      omega
     have HS:Hid (Slot w4 w3.heap.size 0 2):=(IntAt.new w3).slot.on h2
     clear h1 h2 h3 hx3 ha hb4
     have hy4:=(HY.out.on HB3.out).on HB4.out
     go_wp2_with fail
     refine (den_any hy4).mono ?_
     rintro e w5 ⟨gy,iy,rfl,h1,h2,h3⟩
     have hs5:=HS.out.on h2
     have hd5:=HDX.out.on h2
     have HB5:Hid (Below w3.heap.size w3 w5):=HB4.out.trans (h2.mono HB4.out.size)
     have HDY:=Lib.hid h1
     clear h1 h2 h3 hy4
     go_wp2_with fail
     refine (mul_any hs5 hd5 HDY.out KX.out.den KY.out.den).mono ?_
     rintro e w6 ⟨rfl,h1,h2⟩
     have HB6:Hid (Below w3.heap.size w3 w6):=HB5.out.trans (h2.below (Nat.le_refl _) HB5.out.size)
     have HD:=Lib.hid h1
     clear h1 h2 hs5 hd5 HDX HDY HS HB4 HB5 HNX
     have hz6:=(HZ.out.on HB3.out).on HB6.out
     have hn6:=HN.out.on HB6.out
     go_wp2_with fail
     refine (SetFrac_any hz6 hn6 HD.out (Int.mul_ne_zero (den_ne x) (den_ne y)) (okn_add KX.out.1 KY.out.2 KY.out.1 KX.out.2) (okn_mul KX.out.2 KY.out.2)).mono ?_
     rintro e w7 ⟨rfl,h1,h2⟩
     rw [divInt_Add] at h1
     have H1:=Lib.hid h1
     have HT:=Lib.hid ((Touch.of_below (HB3.out.trans (HB6.out.mono HB3.out.size)) b o 4).trans h2)
     clear h1 h2 hz6 hn6
     go_wp2
     go_ret
     exact ⟨rfl,H1.out,HT.out⟩
theorem divInt_Sub (x y:Rat):Rat.divInt (x.num*(y.den:Int)-y.num*(x.den:Int)) ((x.den:Int)*(y.den:Int))=x-y:=by
 rw [Rat.sub_def',← Int.natCast_mul]; rfl
set_option maxHeartbeats 1600000 in
set_option maxRecDepth 100000 in
theorem rSub_any {w:World} {b o c p d q:Nat} {x y:Rat} (hz:Slot w b o 4) (hx:RatAt w c p x) (hy:RatAt w d q y) (kx:OkR x) (ky:OkR y) :
  Calls Tryz.prog 139 #[.pointer (some ⟨b,o,none⟩),.pointer (some ⟨c,p,none⟩),.pointer (some ⟨d,q,none⟩)] w fun e w'=>e=.returned (.pointer (some ⟨b,o,none⟩))∧RatAt w' b o (x-y)∧Touch w w' b o 4:=by
 have HX:=Lib.hid hx
 have HY:=Lib.hid hy
 have HZ:=Lib.hid hz
 have KX:=Lib.hid kx
 have KY:=Lib.hid ky
 clear hx hy hz kx ky
 go_enter Tryz.func139,Tryz.ntmps139
 go_wp2
 refine wp_region_ghost 6 (GC w.heap.size w [0,5]) (fun γ wq _ wr=>GE w.heap.size [] γ wq wr) (fun i γ wq v=>match i with
   | 0=>VA w.heap.size wq v
   | 1=>v=.pointer (some ⟨c,p,none⟩)
   | 2=>v=.pointer (some ⟨c,p,none⟩)
   | 3=>v=.pointer (some ⟨c,p,none⟩)
   | 4=>v=.pointer (some ⟨d,q,none⟩)
   | 5=>VD ((y).den:Int) wq v
   | _=>True) (by kernel_rfl) (by kernel_rfl) (by kernel_rfl) (GC.start _ (Nat.le_refl _)) ?_ ⟨?_,?_,?_,?_,?_,?_,trivial⟩ ?_
 · intro i γ w1 k xq w2 v hC hC2 hE hk hi hV
   match i with
   | 0=>exact VA.stable hV hE
   | 1=>exact hV
   | 2=>exact hV
   | 3=>exact hV
   | 4=>exact hV
   | 5=>exact VD.stable 5 hV hC hE hi rfl
   | _+6=>trivial
 · intro a' γ w' hag hC hk hd K hK
   have hb:Below w'.heap.size w' (w'.alloc (.cells #[.bool false,.slice none 0 0] 177)):=(Below.refl _ _).alloc (Nat.le_refl _) _
   have HK:=Lib.hid (hK (.pointer (some ⟨w'.heap.size,0,none⟩)) _ (hC.own 0 _ _ hb (IntAt.new w').lt (.inr (Nat.le_refl _))) (GE.below _ _ hb) ⟨_,rfl,hC.size,(IntAt.new w').slot⟩)
   clear hb hK hC
   go_step
   exact HK.out
 · intro a' γ w' hag hC hk hd K hK
   have e1:a'.tmps.getD 1 undef=.pointer (some ⟨c,p,none⟩):=hag 1 rfl
   go_step
   exact hK _ _ (hC.step 1 _ rfl (Below.refl _ _)) (GE.refl _ _ _ _) rfl
 · intro a' γ w' hag hC hk hd K hK
   have e9:a'.tmps.getD 9 undef=.pointer (some ⟨c,p,none⟩):=hd.1.2
   go_step
   exact hK _ _ (hC.step 2 _ rfl (Below.refl _ _)) (GE.refl _ _ _ _) rfl
 · intro a' γ w' hag hC hk hd K hK
   have e10:a'.tmps.getD 10 undef=.pointer (some ⟨c,p,none⟩):=hd.1.2
   go_step
   exact hK _ _ (hC.step 3 _ rfl (Below.refl _ _)) (GE.refl _ _ _ _) rfl
 · intro a' γ w' hag hC hk hd K hK
   have e2:a'.tmps.getD 2 undef=.pointer (some ⟨d,q,none⟩):=hag 2 rfl
   go_step
   exact hK _ _ (hC.step 4 _ rfl (Below.refl _ _)) (GE.refl _ _ _ _) rfl
 · intro a' γ w' hag hC hk hd K hK
   have e12:a'.tmps.getD 12 undef=.pointer (some ⟨d,q,none⟩):=hd.1.2
   have hx:=HY.out.on hC.below
   go_step
   refine (den_any hx).mono ?_
   rintro e w2 ⟨g,j,rfl,h1,h2,h3⟩
   exact hK _ _ (hC.own 5 _ _ h2 h1.lt (h3.imp (fun e=>by rw [e]; exact HY.out.lt) id)) (GE.below _ _ h2) ⟨_,_,rfl,h1⟩
 · intro γ u w' hC hgh hall
   obtain ⟨u0,u1,u2,u3,u4,u5,_⟩:=hall
   obtain ⟨g8,eu0,hb8,hs8⟩:=u0
   have u0:u 0=.pointer (some ⟨g8,0,none⟩):=eu0
   have u1:u 1=.pointer (some ⟨c,p,none⟩):=u1
   have u2:u 2=.pointer (some ⟨c,p,none⟩):=u2
   have u3:u 3=.pointer (some ⟨c,p,none⟩):=u3
   have u4:u 4=.pointer (some ⟨d,q,none⟩):=u4
   obtain ⟨g13,i13,eu5,h13⟩:=u5
   have u5:u 5=.pointer (some ⟨g13,i13,none⟩):=eu5
   simp only [fillR,List.take_succ_cons,List.take_zero,Act.put,List.setIfInBounds_toArray,List.set_cons_succ,List.set_cons_zero,Nat.zero_add,Nat.reduceAdd,u0,u1,u2,u3,u4,u5]
   clear u0 u1 u2 u3 u4 u5
   have HC:=Lib.hid hC.below
   have HB8:=Lib.hid hb8
   have HS8:=Lib.hid hs8
   have H13:=Lib.hid h13
   have hx1:=HX.out.on HC.out
   clear hC hb8 hs8 h13
   go_wp2_with fail
   refine (mul_any HS8.out hx1.num H13.out KX.out.num KY.out.den).mono ?_
   rintro e w1 ⟨rfl,h1,h2⟩
   have HB1:Hid (Below w.heap.size w w1):=HC.out.trans (h2.below HB8.out HC.out.size)
   have H1:=Lib.hid h1
   clear h1 h2 hx1 H13 HS8 HC
   have HX1:=Lib.hid (HX.out.on HB1.out)
   have HY1:=Lib.hid (HY.out.on HB1.out)
   go_wp2
   refine wp_region_ghost 9 (GC w1.heap.size w1 [2,7]) (fun γ wq _ wr=>GE w1.heap.size [(2,8)] γ wq wr) (fun i γ wq v=>match i with
     | 0=>v=.pointer (some ⟨g8,0,none⟩)
     | 1=>v=.pointer (some ⟨g8,0,none⟩)
     | 2=>VA w1.heap.size wq v
     | 3=>v=.pointer (some ⟨d,q,none⟩)
     | 4=>v=.pointer (some ⟨d,q,none⟩)
     | 5=>v=.pointer (some ⟨d,q,none⟩)
     | 6=>v=.pointer (some ⟨c,p,none⟩)
     | 7=>VD ((x).den:Int) wq v
     | 8=>VM w1.heap.size 2 (y.num*(x.den:Int)) γ wq v
     | _=>True) (by kernel_rfl) (by kernel_rfl) (by kernel_rfl) (GC.start _ (Nat.le_refl _)) ?_ ⟨?_,?_,?_,?_,?_,?_,?_,?_,?_,trivial⟩ ?_
   · intro i γ w1 k xq w2 v hC hC2 hE hk hi hV
     match i with
     | 0=>exact hV
     | 1=>exact hV
     | 2=>exact VA.stable hV hE
     | 3=>exact hV
     | 4=>exact hV
     | 5=>exact hV
     | 6=>exact hV
     | 7=>exact VD.stable 7 hV hC hE hi rfl
     | 8=>exact VM.stable 8 k hV hC hE hk hi rfl
     | _+9=>trivial
   · intro a' γ w' hag hC hk hd K hK
     have e7:a'.tmps.getD 7 undef=.pointer (some ⟨g8,0,none⟩):=hag 7 rfl
     go_step
     exact hK _ _ (hC.step 0 _ rfl (Below.refl _ _)) (GE.refl _ _ _ _) rfl
   · intro a' γ w' hag hC hk hd K hK
     have e7:a'.tmps.getD 7 undef=.pointer (some ⟨g8,0,none⟩):=hag 7 rfl
     go_step
     exact hK _ _ (hC.step 1 _ rfl (Below.refl _ _)) (GE.refl _ _ _ _) rfl
   · intro a' γ w' hag hC hk hd K hK
     have hb:Below w'.heap.size w' (w'.alloc (.cells #[.bool false,.slice none 0 0] 177)):=(Below.refl _ _).alloc (Nat.le_refl _) _
     have HK:=Lib.hid (hK (.pointer (some ⟨w'.heap.size,0,none⟩)) _ (hC.own 2 _ _ hb (IntAt.new w').lt (.inr (Nat.le_refl _))) (GE.below _ _ hb) ⟨_,rfl,hC.size,(IntAt.new w').slot⟩)
     clear hb hK hC
     go_step
     exact HK.out
   · intro a' γ w' hag hC hk hd K hK
     have e2:a'.tmps.getD 2 undef=.pointer (some ⟨d,q,none⟩):=hag 2 rfl
     go_step
     exact hK _ _ (hC.step 3 _ rfl (Below.refl _ _)) (GE.refl _ _ _ _) rfl
   · intro a' γ w' hag hC hk hd K hK
     have e18:a'.tmps.getD 18 undef=.pointer (some ⟨d,q,none⟩):=hd.1.2
     go_step
     exact hK _ _ (hC.step 4 _ rfl (Below.refl _ _)) (GE.refl _ _ _ _) rfl
   · intro a' γ w' hag hC hk hd K hK
     have e19:a'.tmps.getD 19 undef=.pointer (some ⟨d,q,none⟩):=hd.1.2
     go_step
     exact hK _ _ (hC.step 5 _ rfl (Below.refl _ _)) (GE.refl _ _ _ _) rfl
   · intro a' γ w' hag hC hk hd K hK
     have e1:a'.tmps.getD 1 undef=.pointer (some ⟨c,p,none⟩):=hag 1 rfl
     go_step
     exact hK _ _ (hC.step 6 _ rfl (Below.refl _ _)) (GE.refl _ _ _ _) rfl
   · intro a' γ w' hag hC hk hd K hK
     have e21:a'.tmps.getD 21 undef=.pointer (some ⟨c,p,none⟩):=hd.1.2
     have hx:=HX1.out.on hC.below
     go_step
     refine (den_any hx).mono ?_
     rintro e w2 ⟨g,j,rfl,h1,h2,h3⟩
     exact hK _ _ (hC.own 7 _ _ h2 h1.lt (h3.imp (fun e=>by rw [e]; exact HX1.out.lt) id)) (GE.below _ _ h2) ⟨_,_,rfl,h1⟩
   · intro a' γ w' hag hC hk hd K hK
     have q17:VA w1.heap.size w' (a'.tmps.getD 17 undef):=hd.1.2
     have gg17:γ 2=some (a'.tmps.getD 17 undef):=hd.1.1
     obtain ⟨g17,e17,hb17,hs17⟩:=q17
     rw [e17] at gg17
     have e17:a'.tmps.getD 17 undef=.pointer (some ⟨g17,0,none⟩):=e17
     have e20:a'.tmps.getD 20 undef=.pointer (some ⟨d,q,none⟩):=hd.2.1.2
     have q22:VD ((x).den:Int) w' (a'.tmps.getD 22 undef):=hd.2.2.1.2
     have gg22:γ 7=some (a'.tmps.getD 22 undef):=hd.2.2.1.1
     obtain ⟨g22,i22,e22,h22⟩:=q22
     rw [e22] at gg22
     have e22:a'.tmps.getD 22 undef=.pointer (some ⟨g22,i22,none⟩):=e22
     have hx:=Lib.hid (mul_any hs17 (HY1.out.on hC.below).num h22 KY.out.num KX.out.den)
     go_step
     refine hx.out.mono ?_
     rintro e w2 ⟨rfl,h1,h2⟩
     exact hK _ _ (hC.step 8 _ rfl (h2.below hb17 hC.size)) (GE.write 2 8 rfl hs17 h2 gg17 hk hb17) ⟨_,rfl,upd_some gg17 hk,hb17,h1⟩
   · intro γ u w' hC hgh hall
     obtain ⟨u0,u1,u2,u3,u4,u5,u6,u7,u8,_⟩:=hall
     have u0:u 0=.pointer (some ⟨g8,0,none⟩):=u0
     have u1:u 1=.pointer (some ⟨g8,0,none⟩):=u1
     have u3:u 3=.pointer (some ⟨d,q,none⟩):=u3
     have u4:u 4=.pointer (some ⟨d,q,none⟩):=u4
     have u5:u 5=.pointer (some ⟨d,q,none⟩):=u5
     have u6:u 6=.pointer (some ⟨c,p,none⟩):=u6
     obtain ⟨g23,eu8,ga23,hb23,h23⟩:=u8
     have u8:u 8=.pointer (some ⟨g23,0,none⟩):=eu8
     simp only [fillR,List.take_succ_cons,List.take_zero,Act.put,List.setIfInBounds_toArray,List.set_cons_succ,List.set_cons_zero,Nat.zero_add,Nat.reduceAdd,u0,u1,u3,u4,u5,u6,u8]
     clear u0 u1 u3 u4 u5 u6 u8
     have HC2:=Lib.hid hC.below
     have H23:=Lib.hid h23
     have h1':=H1.out.on HC2.out
     clear hC h23 ga23 hb23
     go_wp2_with fail
     refine (Sub_any h1'.slot h1' H23.out (okn_mul KX.out.1 KY.out.2) (okn_mul KY.out.1 KX.out.2)).mono ?_
     rintro e w3 ⟨rfl,h2,h3⟩
     have HB3:Hid (Below w.heap.size w w3):=(HB1.out.trans (HC2.out.mono HB1.out.size)).trans (h3.below HB8.out (Nat.le_trans HB1.out.size HC2.out.size))
     have HN:=Lib.hid h2
     clear h1' h2 h3 H23 HC2 HX1 HY1 HB1 H1
     have ha:Below w3.heap.size w3 (w3.alloc (.cells #[.bool false,.slice none 0 0] 177)):=(Below.refl _ _).alloc (Nat.le_refl _) _
     have hx3:=(HX.out.on HB3.out).on ha
     go_wp2_with fail
     refine (den_any hx3).mono ?_
     rintro e w4 ⟨gx,ix,rfl,h1,h2,h3⟩
     have hb4:=ha.trans (h2.mono ha.size)
     have HB4:=Lib.hid hb4
     have HDX:=Lib.hid h1
     have HNX:Hid (gx≠w3.heap.size):=by
      have h4:=ha.size
      have h5:=HX.out.lt
      have h6:=HB3.out.size
      have h7:(w3.alloc (.cells #[.bool false,.slice none 0 0] 177)).heap.size=w3.heap.size+1:=by simp [World.alloc_eq]
      unfold Hid
      omega
     have HS:Hid (Slot w4 w3.heap.size 0 2):=(IntAt.new w3).slot.on h2
     clear h1 h2 h3 hx3 ha hb4
     have hy4:=(HY.out.on HB3.out).on HB4.out
     go_wp2_with fail
     refine (den_any hy4).mono ?_
     rintro e w5 ⟨gy,iy,rfl,h1,h2,h3⟩
     have hs5:=HS.out.on h2
     have hd5:=HDX.out.on h2
     have HB5:Hid (Below w3.heap.size w3 w5):=HB4.out.trans (h2.mono HB4.out.size)
     have HDY:=Lib.hid h1
     clear h1 h2 h3 hy4
     go_wp2_with fail
     refine (mul_any hs5 hd5 HDY.out KX.out.den KY.out.den).mono ?_
     rintro e w6 ⟨rfl,h1,h2⟩
     have HB6:Hid (Below w3.heap.size w3 w6):=HB5.out.trans (h2.below (Nat.le_refl _) HB5.out.size)
     have HD:=Lib.hid h1
     clear h1 h2 hs5 hd5 HDX HDY HS HB4 HB5 HNX
     have hz6:=(HZ.out.on HB3.out).on HB6.out
     have hn6:=HN.out.on HB6.out
     go_wp2_with fail
     refine (SetFrac_any hz6 hn6 HD.out (Int.mul_ne_zero (den_ne x) (den_ne y)) (okn_sub KX.out.1 KY.out.2 KY.out.1 KX.out.2) (okn_mul KX.out.2 KY.out.2)).mono ?_
     rintro e w7 ⟨rfl,h1,h2⟩
     rw [divInt_Sub] at h1
     have H1:=Lib.hid h1
     have HT:=Lib.hid ((Touch.of_below (HB3.out.trans (HB6.out.mono HB3.out.size)) b o 4).trans h2)
     clear h1 h2 hz6 hn6
     go_wp2
     go_ret
     exact ⟨rfl,H1.out,HT.out⟩
def cmpQ (x y:Rat):Int:=if x<y then -1 else if y<x then 1 else 0
theorem cmpQ_of (x y:Rat):cmpI (x.num*(y.den:Int)) (y.num*(x.den:Int))=cmpQ x y:=by
 simp only [cmpI,cmpQ,Rat.lt_iff]
set_option maxHeartbeats 1600000 in
set_option maxRecDepth 100000 in
theorem rCmp_any {w:World} {c p d q:Nat} {x y:Rat} (hx:RatAt w c p x) (hy:RatAt w d q y) (kx:OkR x) (ky:OkR y) :
  Calls Tryz.prog 138 #[.pointer (some ⟨c,p,none⟩),.pointer (some ⟨d,q,none⟩)] w fun e w'=>e=.returned (.int .i64 (cmpQ x y))∧Below w.heap.size w w':=by
 have HX:=Lib.hid hx
 have HY:=Lib.hid hy
 have KX:=Lib.hid kx
 have KY:=Lib.hid ky
 clear hx hy kx ky
 go_enter Tryz.func138,Tryz.ntmps138
 go_wp2
 refine wp_region_ghost 14 (GC w.heap.size w [0,5,7,12]) (fun γ wq _ wr=>GE w.heap.size [(0,6),(7,13)] γ wq wr) (fun i γ wq v=>match i with
   | 0=>VA w.heap.size wq v
   | 1=>v=.pointer (some ⟨c,p,none⟩)
   | 2=>v=.pointer (some ⟨c,p,none⟩)
   | 3=>v=.pointer (some ⟨c,p,none⟩)
   | 4=>v=.pointer (some ⟨d,q,none⟩)
   | 5=>VD ((y).den:Int) wq v
   | 6=>VM w.heap.size 0 (x.num*(y.den:Int)) γ wq v
   | 7=>VA w.heap.size wq v
   | 8=>v=.pointer (some ⟨d,q,none⟩)
   | 9=>v=.pointer (some ⟨d,q,none⟩)
   | 10=>v=.pointer (some ⟨d,q,none⟩)
   | 11=>v=.pointer (some ⟨c,p,none⟩)
   | 12=>VD ((x).den:Int) wq v
   | 13=>VM w.heap.size 7 (y.num*(x.den:Int)) γ wq v
   | _=>True) (by kernel_rfl) (by kernel_rfl) (by kernel_rfl) (GC.start _ (Nat.le_refl _)) ?_ ⟨?_,?_,?_,?_,?_,?_,?_,?_,?_,?_,?_,?_,?_,?_,trivial⟩ ?_
 · intro i γ w1 k xq w2 v hC hC2 hE hk hi hV
   match i with
   | 0=>exact VA.stable hV hE
   | 1=>exact hV
   | 2=>exact hV
   | 3=>exact hV
   | 4=>exact hV
   | 5=>exact VD.stable 5 hV hC hE hi rfl
   | 6=>exact VM.stable 6 k hV hC hE hk hi rfl
   | 7=>exact VA.stable hV hE
   | 8=>exact hV
   | 9=>exact hV
   | 10=>exact hV
   | 11=>exact hV
   | 12=>exact VD.stable 12 hV hC hE hi rfl
   | 13=>exact VM.stable 13 k hV hC hE hk hi rfl
   | _+14=>trivial
 · intro a' γ w' hag hC hk hd K hK
   have hb:Below w'.heap.size w' (w'.alloc (.cells #[.bool false,.slice none 0 0] 177)):=(Below.refl _ _).alloc (Nat.le_refl _) _
   have HK:=Lib.hid (hK (.pointer (some ⟨w'.heap.size,0,none⟩)) _ (hC.own 0 _ _ hb (IntAt.new w').lt (.inr (Nat.le_refl _))) (GE.below _ _ hb) ⟨_,rfl,hC.size,(IntAt.new w').slot⟩)
   clear hb hK hC
   go_step
   exact HK.out
 · intro a' γ w' hag hC hk hd K hK
   have e0:a'.tmps.getD 0 undef=.pointer (some ⟨c,p,none⟩):=hag 0 rfl
   go_step
   exact hK _ _ (hC.step 1 _ rfl (Below.refl _ _)) (GE.refl _ _ _ _) rfl
 · intro a' γ w' hag hC hk hd K hK
   have e6:a'.tmps.getD 6 undef=.pointer (some ⟨c,p,none⟩):=hd.1.2
   go_step
   exact hK _ _ (hC.step 2 _ rfl (Below.refl _ _)) (GE.refl _ _ _ _) rfl
 · intro a' γ w' hag hC hk hd K hK
   have e7:a'.tmps.getD 7 undef=.pointer (some ⟨c,p,none⟩):=hd.1.2
   go_step
   exact hK _ _ (hC.step 3 _ rfl (Below.refl _ _)) (GE.refl _ _ _ _) rfl
 · intro a' γ w' hag hC hk hd K hK
   have e1:a'.tmps.getD 1 undef=.pointer (some ⟨d,q,none⟩):=hag 1 rfl
   go_step
   exact hK _ _ (hC.step 4 _ rfl (Below.refl _ _)) (GE.refl _ _ _ _) rfl
 · intro a' γ w' hag hC hk hd K hK
   have e9:a'.tmps.getD 9 undef=.pointer (some ⟨d,q,none⟩):=hd.1.2
   have hx:=HY.out.on hC.below
   go_step
   refine (den_any hx).mono ?_
   rintro e w2 ⟨g,j,rfl,h1,h2,h3⟩
   exact hK _ _ (hC.own 5 _ _ h2 h1.lt (h3.imp (fun e=>by rw [e]; exact HY.out.lt) id)) (GE.below _ _ h2) ⟨_,_,rfl,h1⟩
 · intro a' γ w' hag hC hk hd K hK
   have q5:VA w.heap.size w' (a'.tmps.getD 5 undef):=hd.1.2
   have gg5:γ 0=some (a'.tmps.getD 5 undef):=hd.1.1
   obtain ⟨g5,e5,hb5,hs5⟩:=q5
   rw [e5] at gg5
   have e5:a'.tmps.getD 5 undef=.pointer (some ⟨g5,0,none⟩):=e5
   have e8:a'.tmps.getD 8 undef=.pointer (some ⟨c,p,none⟩):=hd.2.1.2
   have q10:VD ((y).den:Int) w' (a'.tmps.getD 10 undef):=hd.2.2.1.2
   have gg10:γ 5=some (a'.tmps.getD 10 undef):=hd.2.2.1.1
   obtain ⟨g10,i10,e10,h10⟩:=q10
   rw [e10] at gg10
   have e10:a'.tmps.getD 10 undef=.pointer (some ⟨g10,i10,none⟩):=e10
   have hx:=Lib.hid (mul_any hs5 (HX.out.on hC.below).num h10 KX.out.num KY.out.den)
   go_step
   refine hx.out.mono ?_
   rintro e w2 ⟨rfl,h1,h2⟩
   exact hK _ _ (hC.step 6 _ rfl (h2.below hb5 hC.size)) (GE.write 0 6 rfl hs5 h2 gg5 hk hb5) ⟨_,rfl,upd_some gg5 hk,hb5,h1⟩
 · intro a' γ w' hag hC hk hd K hK
   have hb:Below w'.heap.size w' (w'.alloc (.cells #[.bool false,.slice none 0 0] 177)):=(Below.refl _ _).alloc (Nat.le_refl _) _
   have HK:=Lib.hid (hK (.pointer (some ⟨w'.heap.size,0,none⟩)) _ (hC.own 7 _ _ hb (IntAt.new w').lt (.inr (Nat.le_refl _))) (GE.below _ _ hb) ⟨_,rfl,hC.size,(IntAt.new w').slot⟩)
   clear hb hK hC
   go_step
   exact HK.out
 · intro a' γ w' hag hC hk hd K hK
   have e1:a'.tmps.getD 1 undef=.pointer (some ⟨d,q,none⟩):=hag 1 rfl
   go_step
   exact hK _ _ (hC.step 8 _ rfl (Below.refl _ _)) (GE.refl _ _ _ _) rfl
 · intro a' γ w' hag hC hk hd K hK
   have e13:a'.tmps.getD 13 undef=.pointer (some ⟨d,q,none⟩):=hd.1.2
   go_step
   exact hK _ _ (hC.step 9 _ rfl (Below.refl _ _)) (GE.refl _ _ _ _) rfl
 · intro a' γ w' hag hC hk hd K hK
   have e14:a'.tmps.getD 14 undef=.pointer (some ⟨d,q,none⟩):=hd.1.2
   go_step
   exact hK _ _ (hC.step 10 _ rfl (Below.refl _ _)) (GE.refl _ _ _ _) rfl
 · intro a' γ w' hag hC hk hd K hK
   have e0:a'.tmps.getD 0 undef=.pointer (some ⟨c,p,none⟩):=hag 0 rfl
   go_step
   exact hK _ _ (hC.step 11 _ rfl (Below.refl _ _)) (GE.refl _ _ _ _) rfl
 · intro a' γ w' hag hC hk hd K hK
   have e16:a'.tmps.getD 16 undef=.pointer (some ⟨c,p,none⟩):=hd.1.2
   have hx:=HX.out.on hC.below
   go_step
   refine (den_any hx).mono ?_
   rintro e w2 ⟨g,j,rfl,h1,h2,h3⟩
   exact hK _ _ (hC.own 12 _ _ h2 h1.lt (h3.imp (fun e=>by rw [e]; exact HX.out.lt) id)) (GE.below _ _ h2) ⟨_,_,rfl,h1⟩
 · intro a' γ w' hag hC hk hd K hK
   have q12:VA w.heap.size w' (a'.tmps.getD 12 undef):=hd.1.2
   have gg12:γ 7=some (a'.tmps.getD 12 undef):=hd.1.1
   obtain ⟨g12,e12,hb12,hs12⟩:=q12
   rw [e12] at gg12
   have e12:a'.tmps.getD 12 undef=.pointer (some ⟨g12,0,none⟩):=e12
   have e15:a'.tmps.getD 15 undef=.pointer (some ⟨d,q,none⟩):=hd.2.1.2
   have q17:VD ((x).den:Int) w' (a'.tmps.getD 17 undef):=hd.2.2.1.2
   have gg17:γ 12=some (a'.tmps.getD 17 undef):=hd.2.2.1.1
   obtain ⟨g17,i17,e17,h17⟩:=q17
   rw [e17] at gg17
   have e17:a'.tmps.getD 17 undef=.pointer (some ⟨g17,i17,none⟩):=e17
   have hx:=Lib.hid (mul_any hs12 (HY.out.on hC.below).num h17 KY.out.num KX.out.den)
   go_step
   refine hx.out.mono ?_
   rintro e w2 ⟨rfl,h1,h2⟩
   exact hK _ _ (hC.step 13 _ rfl (h2.below hb12 hC.size)) (GE.write 7 13 rfl hs12 h2 gg12 hk hb12) ⟨_,rfl,upd_some gg12 hk,hb12,h1⟩
 · intro γ u w' hC hgh hall
   obtain ⟨u0,u1,u2,u3,u4,u5,u6,u7,u8,u9,u10,u11,u12,u13,_⟩:=hall
   have u1:u 1=.pointer (some ⟨c,p,none⟩):=u1
   have u2:u 2=.pointer (some ⟨c,p,none⟩):=u2
   have u3:u 3=.pointer (some ⟨c,p,none⟩):=u3
   have u4:u 4=.pointer (some ⟨d,q,none⟩):=u4
   obtain ⟨g11,eu6,ga11,hb11,h11⟩:=u6
   have u6:u 6=.pointer (some ⟨g11,0,none⟩):=eu6
   have u8:u 8=.pointer (some ⟨d,q,none⟩):=u8
   have u9:u 9=.pointer (some ⟨d,q,none⟩):=u9
   have u10:u 10=.pointer (some ⟨d,q,none⟩):=u10
   have u11:u 11=.pointer (some ⟨c,p,none⟩):=u11
   obtain ⟨g18,eu13,ga18,hb18,h18⟩:=u13
   have u13:u 13=.pointer (some ⟨g18,0,none⟩):=eu13
   simp only [fillR,List.take_succ_cons,List.take_zero,Act.put,List.setIfInBounds_toArray,List.set_cons_succ,List.set_cons_zero,Nat.zero_add,Nat.reduceAdd,u1,u2,u3,u4,u6,u8,u9,u10,u11,u13]
   clear u1 u2 u3 u4 u6 u8 u9 u10 u11 u13
   have HC:=Lib.hid hC.below
   have H11:=Lib.hid h11
   have H18:=Lib.hid h18
   clear hC h11 h18 ga11 ga18 hb11 hb18
   go_wp2_with fail
   refine (Cmp_any H11.out H18.out).mono ?_
   rintro e w3 ⟨rfl,h1⟩
   rw [cmpQ_of]
   have H1:=Lib.hid (HC.out.trans (h1.mono HC.out.size))
   clear h1
   go_wp2
   go_ret
   exact ⟨rfl,H1.out⟩
theorem rNum_any {w:World} {c p:Nat} {x:Rat} (hx:RatAt w c p x) :
  Calls Tryz.prog 266 #[.pointer (some ⟨c,p,none⟩)] w fun e w'=>∃ g,e=.returned (.pointer (some ⟨g,0,none⟩))∧w.heap.size≤g∧IntAt w' g 0 x.num∧Below w.heap.size w w':=by
 have HX:=Lib.hid hx
 clear hx
 go_enter Tryz.func266,Tryz.ntmps266
 have ha:Below w.heap.size w (w.alloc (.cells #[.bool false,.slice none 0 0] 177)):=(Below.refl _ _).alloc (Nat.le_refl _) _
 go_wp2_with fail
 refine (set_any (IntAt.new w).slot (HX.out.on ha).num).mono ?_
 rintro e w1 ⟨rfl,h1,h2⟩
 have H1:=Lib.hid h1
 have H2:=Lib.hid (ha.trans (h2.below (Nat.le_refl _) ha.size))
 clear h1 h2 ha
 go_wp2
 go_ret
 exact ⟨_,rfl,Nat.le_refl _,H1.out,H2.out⟩
theorem rDenom_any {w:World} {c p:Nat} {x:Rat} (hx:RatAt w c p x) :
  Calls Tryz.prog 268 #[.pointer (some ⟨c,p,none⟩)] w fun e w'=>∃ g,e=.returned (.pointer (some ⟨g,0,none⟩))∧w.heap.size≤g∧IntAt w' g 0 x.den∧Below w.heap.size w w':=by
 have HX:=Lib.hid hx
 clear hx
 go_enter Tryz.func268,Tryz.ntmps268
 have ha:Below w.heap.size w (w.alloc (.cells #[.bool false,.slice none 0 0] 177)):=(Below.refl _ _).alloc (Nat.le_refl _) _
 go_wp2_with fail
 refine (den_any (HX.out.on ha)).mono ?_
 rintro e w1 ⟨g,i,rfl,h1,h2,_⟩
 have hs:=(IntAt.new w).slot.on h2
 have HB:=Lib.hid (ha.trans (h2.mono ha.size))
 have H1:=Lib.hid h1
 clear h1 h2 ha
 go_wp2_with fail
 refine (set_any hs H1.out).mono ?_
 rintro e w2 ⟨rfl,h1,h2⟩
 have H2:=Lib.hid h1
 have H3:=Lib.hid (HB.out.trans (h2.below (Nat.le_refl _) HB.out.size))
 clear h1 h2 hs
 go_wp2
 go_ret
 exact ⟨_,rfl,Nat.le_refl _,H2.out,H3.out⟩
theorem rSign_any {w:World} {c p:Nat} {x:Rat} (hx:RatAt w c p x) :
  Calls Tryz.prog 140 #[.pointer (some ⟨c,p,none⟩)] w fun e w'=>e=.returned (.int .i64 x.num.sign)∧w=w':=by
 have HX:=Lib.hid hx
 clear hx
 go_enter Tryz.func140,Tryz.ntmps140
 go_wp2_with fail
 refine (sign_any HX.out.num).mono ?_
 rintro e w1 ⟨rfl,rfl⟩
 go_wp2
 go_ret
 exact ⟨rfl,rfl⟩
set_option maxHeartbeats 1600000 in
theorem rSet_any {w:World} {b o c p:Nat} {x:Rat} (hz:Slot w b o 4) (hx:RatAt w c p x) :
  Calls Tryz.prog 338 #[.pointer (some ⟨b,o,none⟩),.pointer (some ⟨c,p,none⟩)] w fun e w'=>e=.returned (.pointer (some ⟨b,o,none⟩))∧RatAt w' b o x∧Touch w w' b o 4:=by
 have HX:=Lib.hid hx
 have HZ:=Lib.hid hz
 clear hx hz
 go_enter Tryz.func338,Tryz.ntmps338
 have ha:Below w.heap.size w (w.alloc (.cells #[.bool false,.slice none 0 0] 177)):=(Below.refl _ _).alloc (Nat.le_refl _) _
 go_wp2_with fail
 refine (set_any (IntAt.new w).slot (HX.out.on ha).num).mono ?_
 rintro e w1 ⟨rfl,h1,h2⟩
 have HB1:=Lib.hid (ha.trans (h2.below (Nat.le_refl _) ha.size))
 have HN1:=Lib.hid h1
 clear h1 h2 ha
 have ha:Below w1.heap.size w1 (w1.alloc (.cells #[.bool false,.slice none 0 0] 177)):=(Below.refl _ _).alloc (Nat.le_refl _) _
 go_wp2_with fail
 refine (den_any ((HX.out.on HB1.out).on ha)).mono ?_
 rintro e w2 ⟨gd,id,rfl,h1,h2,_⟩
 have hs:=(IntAt.new w1).slot.on h2
 have HB2:=Lib.hid (ha.trans (h2.mono ha.size))
 have H1:=Lib.hid h1
 clear h1 h2 ha
 go_wp2_with fail
 refine (set_any hs H1.out).mono ?_
 rintro e w3 ⟨rfl,h1,h2⟩
 have hb3:Below w1.heap.size w1 w3:=HB2.out.trans (h2.below (Nat.le_refl _) HB2.out.size)
 have HN4:=Lib.hid (HN1.out.on hb3)
 have HD4:=Lib.hid h1
 have HZ4:Hid (Slot w3 b o 4):=(HZ.out.on HB1.out).on hb3
 have HB4:Hid (Below w.heap.size w w3):=HB1.out.trans (hb3.mono HB1.out.size)
 have HNE:Hid (w.heap.size≠b∧w1.heap.size≠b):=by
  have h3:=HZ.out.lt
  have h5:=HB1.out.size
  constructor<;>omega
 clear h1 h2 hs hb3 HN1 HX HZ HB1 HB2 H1
 revert HNE HN4 HD4
 obtain ⟨g1,hg1⟩:∃ g,g=w.heap.size:=⟨_,rfl⟩
 rw [← hg1]
 rw [← hg1] at HB4
 have HBW:=Lib.hid hg1
 clear hg1
 generalize w1.heap.size=g2
 intro HN4 HD4 HNE
 obtain ⟨A1,l1,c1,hn0,hn1,hnv,hnl⟩:=HN4.out.open_
 obtain ⟨A2,l2,c2,hd0,hd1,hdv,hdl⟩:=HD4.out.open_
 have HW1:=Lib.hid hnv
 have HW2:=Lib.hid hdv
 clear hnv hdv
 rw [Nat.zero_add] at hn1 hd1
 generalize hs1:decide (x.num<0)=s1 at hn0
 generalize hs2:decide ((x.den:Int)<0)=s2 at hd0
 have HS1:=Lib.hid hs1
 have HS2:=Lib.hid hs2
 clear hs1 hs2
 obtain ⟨v0,hv0⟩:=HZ4.out.cell o (by omega)
 obtain ⟨v1,hv1⟩:=HZ4.out.cell (o+1) (by omega)
 obtain ⟨v2,hv2⟩:=HZ4.out.cell (o+2) (by omega)
 obtain ⟨v3,hv3⟩:=HZ4.out.cell (o+2+1) (by omega)
 have hf:∀ i,w3.frozen? ⟨b,i,none⟩=false:=fun i=>HZ4.out.frozen i
 have hg1:=HNE.out.1
 have hg2:=HNE.out.2
 go_wp2
 go_region
 obtain ⟨hr,ht⟩:=ratAt_set HZ4.out HW1.out HW2.out HS1.out HS2.out
 have HRA:=Lib.hid hr
 have HTO:=Lib.hid ht
 clear hr ht
 go_wp2
 go_ret
 have hb:=HB4.out
 rw [HBW.out] at hb
 exact ⟨rfl,HRA.out.on (Below.refl _ _).drew,(((Touch.of_below hb b o 4).trans HTO.out)).drew⟩
theorem NewRat_any {w:World} {n m:Int} (hn : -9223372036854775808≤n∧n≤9223372036854775807) (hm : -9223372036854775808≤m∧m≤9223372036854775807) (h0:m≠0) :
  Calls Tryz.prog 137 #[.int .i64 n,.int .i64 m] w fun e w'=>∃ g,e=.returned (.pointer (some ⟨g,0,none⟩))∧w.heap.size≤g∧RatAt w' g 0 (Rat.divInt n m)∧Below w.heap.size w w':=by
 have HN:=Lib.hid hn
 have HM:=Lib.hid hm
 have H0:=Lib.hid h0
 have KN:Hid (Okn n):=Okn.small (Nat.lt_of_le_of_lt (show n.natAbs≤9223372036854775808 by omega) (by decide))
 have KM:Hid (Okn m):=Okn.small (Nat.lt_of_le_of_lt (show m.natAbs≤9223372036854775808 by omega) (by decide))
 clear hn hm h0
 go_enter Tryz.func137,Tryz.ntmps137
 have ha:Below w.heap.size w (w.alloc (.cells #[.bool false,.slice none 0 0,.bool false,.slice none 0 0] 179)):=(Below.refl _ _).alloc (Nat.le_refl _) _
 go_wp2_with fail
 refine (NewInt_any HN.out).mono ?_
 rintro e w1 ⟨g1,rfl,_,h1,h2⟩
 have HS:=Lib.hid ((RatAt.new w).slot.on h2)
 have HB1:=Lib.hid (ha.trans (h2.mono ha.size))
 have H1:=Lib.hid h1
 clear h1 h2 ha
 go_wp2_with fail
 refine (NewInt_any HM.out).mono ?_
 rintro e w2 ⟨g2,rfl,_,h1,h2⟩
 have hs:=HS.out.on h2
 have hn2:=H1.out.on h2
 have HB2:=Lib.hid (HB1.out.trans (h2.mono HB1.out.size))
 have H2:=Lib.hid h1
 clear h1 h2 HB1
 go_wp2_with fail
 refine (SetFrac_any hs hn2 H2.out H0.out KN.out KM.out).mono ?_
 rintro e w3 ⟨rfl,h1,h2⟩
 have H3:=Lib.hid h1
 have HB3:=Lib.hid (HB2.out.trans (h2.below (Nat.le_refl _) HB2.out.size))
 clear h1 h2 hs hn2
 go_wp2
 go_ret
 exact ⟨_,rfl,Nat.le_refl _,H3.out,HB3.out⟩
theorem divInt_inv (x:Rat):Rat.divInt x.den x.num=x⁻¹:=(Rat.inv_def x).symm
set_option maxRecDepth 100000 in
theorem rInv_any {w:World} {b o c p:Nat} {x:Rat} (hz:Slot w b o 4) (hx:RatAt w c p x) (kx:OkR x) (h0:x≠0) :
  Calls Tryz.prog 143 #[.pointer (some ⟨b,o,none⟩),.pointer (some ⟨c,p,none⟩)] w fun e w'=>e=.returned (.pointer (some ⟨b,o,none⟩))∧RatAt w' b o x⁻¹∧Touch w w' b o 4:=by
 have HX:=Lib.hid hx
 have HZ:=Lib.hid hz
 have KX:=Lib.hid kx
 have HN0:Hid (x.num≠0):=fun h=>h0 (Rat.num_eq_zero.1 h)
 clear hx hz kx h0
 go_enter Tryz.func143,Tryz.ntmps143
 go_wp2
 refine wp_region_ghost 6 (GC w.heap.size w [2]) (fun γ wq _ wr=>GE w.heap.size [] γ wq wr) (fun i γ wq v=>match i with
   | 0=>v=.pointer (some ⟨b,o,none⟩)
   | 1=>v=.pointer (some ⟨c,p,none⟩)
   | 2=>VD ((x).den:Int) wq v
   | 3=>v=.pointer (some ⟨c,p,none⟩)
   | 4=>v=.pointer (some ⟨c,p,none⟩)
   | 5=>v=.pointer (some ⟨c,p,none⟩)
   | _=>True) (by kernel_rfl) (by kernel_rfl) (by kernel_rfl) (GC.start _ (Nat.le_refl _)) ?_ ⟨?_,?_,?_,?_,?_,?_,trivial⟩ ?_
 · intro i γ w1 k xq w2 v hC hC2 hE hk hi hV
   match i with
   | 0=>exact hV
   | 1=>exact hV
   | 2=>exact VD.stable 2 hV hC hE hi rfl
   | 3=>exact hV
   | 4=>exact hV
   | 5=>exact hV
   | _+6=>trivial
 · intro a' γ w' hag hC hk hd K hK
   have e0:a'.tmps.getD 0 undef=.pointer (some ⟨b,o,none⟩):=hag 0 rfl
   go_step
   exact hK _ _ (hC.step 0 _ rfl (Below.refl _ _)) (GE.refl _ _ _ _) rfl
 · intro a' γ w' hag hC hk hd K hK
   have e1:a'.tmps.getD 1 undef=.pointer (some ⟨c,p,none⟩):=hag 1 rfl
   go_step
   exact hK _ _ (hC.step 1 _ rfl (Below.refl _ _)) (GE.refl _ _ _ _) rfl
 · intro a' γ w' hag hC hk hd K hK
   have e6:a'.tmps.getD 6 undef=.pointer (some ⟨c,p,none⟩):=hd.1.2
   have hx:=HX.out.on hC.below
   go_step
   refine (den_any hx).mono ?_
   rintro e w2 ⟨g,j,rfl,h1,h2,h3⟩
   exact hK _ _ (hC.own 2 _ _ h2 h1.lt (h3.imp (fun e=>by rw [e]; exact HX.out.lt) id)) (GE.below _ _ h2) ⟨_,_,rfl,h1⟩
 · intro a' γ w' hag hC hk hd K hK
   have e1:a'.tmps.getD 1 undef=.pointer (some ⟨c,p,none⟩):=hag 1 rfl
   go_step
   exact hK _ _ (hC.step 3 _ rfl (Below.refl _ _)) (GE.refl _ _ _ _) rfl
 · intro a' γ w' hag hC hk hd K hK
   have e8:a'.tmps.getD 8 undef=.pointer (some ⟨c,p,none⟩):=hd.1.2
   go_step
   exact hK _ _ (hC.step 4 _ rfl (Below.refl _ _)) (GE.refl _ _ _ _) rfl
 · intro a' γ w' hag hC hk hd K hK
   have e9:a'.tmps.getD 9 undef=.pointer (some ⟨c,p,none⟩):=hd.1.2
   go_step
   exact hK _ _ (hC.step 5 _ rfl (Below.refl _ _)) (GE.refl _ _ _ _) rfl
 · intro γ u w' hC hgh hall
   obtain ⟨u0,u1,u2,u3,u4,u5,_⟩:=hall
   have u0:u 0=.pointer (some ⟨b,o,none⟩):=u0
   have u1:u 1=.pointer (some ⟨c,p,none⟩):=u1
   obtain ⟨g7,i7,eu2,h7⟩:=u2
   have u2:u 2=.pointer (some ⟨g7,i7,none⟩):=eu2
   have u3:u 3=.pointer (some ⟨c,p,none⟩):=u3
   have u4:u 4=.pointer (some ⟨c,p,none⟩):=u4
   have u5:u 5=.pointer (some ⟨c,p,none⟩):=u5
   simp only [fillR,List.take_succ_cons,List.take_zero,Act.put,List.setIfInBounds_toArray,List.set_cons_succ,List.set_cons_zero,Nat.zero_add,Nat.reduceAdd,u0,u1,u2,u3,u4,u5]
   clear u0 u1 u2 u3 u4 u5
   have HC:=Lib.hid hC.below
   have H7:=Lib.hid h7
   have hz2:=HZ.out.on HC.out
   have hx2:=HX.out.on HC.out
   clear hC h7
   go_wp2_with fail
   refine (SetFrac_any hz2 H7.out hx2.num HN0.out KX.out.den KX.out.num).mono ?_
   rintro e w3 ⟨rfl,h1,h2⟩
   rw [divInt_inv] at h1
   have H1:=Lib.hid h1
   have HT:=Lib.hid ((Touch.of_below HC.out b o 4).trans h2)
   clear h1 h2 hz2 hx2
   go_wp2
   go_ret
   exact ⟨rfl,H1.out,HT.out⟩
set_option maxRecDepth 100000 in
theorem rNeg_any {w:World} {b o c p:Nat} {x:Rat} (hz:Slot w b o 4) (hx:RatAt w c p x) :
  Calls Tryz.prog 275 #[.pointer (some ⟨b,o,none⟩),.pointer (some ⟨c,p,none⟩)] w fun e w'=>e=.returned (.pointer (some ⟨b,o,none⟩))∧RatAt w' b o (-x)∧Touch w w' b o 4:=by
 have HX:=Lib.hid hx
 have HZ:=Lib.hid hz
 clear hx hz
 go_enter Tryz.func275,Tryz.ntmps275
 go_wp2_with fail
 refine (rSet_any HZ.out HX.out).mono ?_
 rintro e w1 ⟨rfl,h1,h2⟩
 have H1:=Lib.hid h1
 have H2:=Lib.hid h2
 clear h1 h2
 go_wp2
 refine wp_region_ghost 6 (GC w1.heap.size w1 []) (fun γ wq _ wr=>GE w1.heap.size [] γ wq wr) (fun i γ wq v=>match i with
   | 0=>v=.pointer (some ⟨b,o,none⟩)
   | 1=>v=.pointer (some ⟨b,o,none⟩)
   | 2=>v=.pointer (some ⟨b,o,none⟩)
   | 3=>v=.pointer (some ⟨b,o,none⟩)
   | 4=>v=.pointer (some ⟨b,o,none⟩)
   | 5=>v=.pointer (some ⟨b,o,none⟩)
   | _=>True) (by kernel_rfl) (by kernel_rfl) (by kernel_rfl) (GC.start _ (Nat.le_refl _)) ?_ ⟨?_,?_,?_,?_,?_,?_,trivial⟩ ?_
 · intro i γ w1 k xq w2 v hC hC2 hE hk hi hV
   match i with
   | 0=>exact hV
   | 1=>exact hV
   | 2=>exact hV
   | 3=>exact hV
   | 4=>exact hV
   | 5=>exact hV
   | _+6=>trivial
 · intro a' γ w' hag hC hk hd K hK
   have e0:a'.tmps.getD 0 undef=.pointer (some ⟨b,o,none⟩):=hag 0 rfl
   go_step
   exact hK _ _ (hC.step 0 _ rfl (Below.refl _ _)) (GE.refl _ _ _ _) rfl
 · intro a' γ w' hag hC hk hd K hK
   have e8:a'.tmps.getD 8 undef=.pointer (some ⟨b,o,none⟩):=hd.1.2
   go_step
   exact hK _ _ (hC.step 1 _ rfl (Below.refl _ _)) (GE.refl _ _ _ _) rfl
 · intro a' γ w' hag hC hk hd K hK
   have e9:a'.tmps.getD 9 undef=.pointer (some ⟨b,o,none⟩):=hd.1.2
   go_step
   exact hK _ _ (hC.step 2 _ rfl (Below.refl _ _)) (GE.refl _ _ _ _) rfl
 · intro a' γ w' hag hC hk hd K hK
   have e0:a'.tmps.getD 0 undef=.pointer (some ⟨b,o,none⟩):=hag 0 rfl
   go_step
   exact hK _ _ (hC.step 3 _ rfl (Below.refl _ _)) (GE.refl _ _ _ _) rfl
 · intro a' γ w' hag hC hk hd K hK
   have e11:a'.tmps.getD 11 undef=.pointer (some ⟨b,o,none⟩):=hd.1.2
   go_step
   exact hK _ _ (hC.step 4 _ rfl (Below.refl _ _)) (GE.refl _ _ _ _) rfl
 · intro a' γ w' hag hC hk hd K hK
   have e12:a'.tmps.getD 12 undef=.pointer (some ⟨b,o,none⟩):=hd.1.2
   go_step
   exact hK _ _ (hC.step 5 _ rfl (Below.refl _ _)) (GE.refl _ _ _ _) rfl
 · intro γ u w' hC hgh hall
   obtain ⟨u0,u1,u2,u3,u4,u5,_⟩:=hall
   have u0:u 0=.pointer (some ⟨b,o,none⟩):=u0
   have u1:u 1=.pointer (some ⟨b,o,none⟩):=u1
   have u2:u 2=.pointer (some ⟨b,o,none⟩):=u2
   have u3:u 3=.pointer (some ⟨b,o,none⟩):=u3
   have u4:u 4=.pointer (some ⟨b,o,none⟩):=u4
   have u5:u 5=.pointer (some ⟨b,o,none⟩):=u5
   simp only [fillR,List.take_succ_cons,List.take_zero,Act.put,List.setIfInBounds_toArray,List.set_cons_succ,List.set_cons_zero,Nat.zero_add,Nat.reduceAdd,u0,u1,u2,u3,u4,u5]
   clear u0 u1 u2 u3 u4 u5
   have HC:=Lib.hid hC.below
   have hx2:=H1.out.on HC.out
   clear hC
   go_wp2_with fail
   refine (neg_any hx2.num.slot hx2.num).mono ?_
   rintro e w3 ⟨rfl,h3,h4⟩
   have HT:Hid (Touch w w3 b o 4):=H2.out.trans ((Touch.of_below HC.out b o 4).trans (h4.mono (Nat.le_refl _) (by omega)))
   have HR:Hid (RatAt w3 b o (-x)):=by
    obtain ⟨k1,k2,dd,k3,k4⟩:=hx2
    refine ⟨k1.touch h4,by rw [Rat.neg_num]; exact h3,dd,k3.touch k2.slot h4 (.inr (.inr (Nat.le_refl _))),by rw [Rat.neg_den]; exact k4⟩
   clear h3 h4 hx2
   go_wp2
   go_ret
   exact ⟨rfl,HR.out,HT.out⟩
theorem sg_inj {n m:Int} (h:decide (n<0)=decide (m<0)) (k:n.natAbs=m.natAbs):n=m:=by
 have:(n<0)↔(m<0):=decide_eq_decide.1 h
 omega
theorem words_val {w:World} {A:Option Addr} {l c:Nat} {xs ys:List Nat} (h:Words w (.slice A l c) xs) (k:Words w (.slice A l c) ys):xs=ys:=by
 have h1:=h.len.1
 have k1:=k.len.1
 rcases Nat.eq_zero_or_pos l with h0 | h0
 · have e1:xs=[]:=List.eq_nil_of_length_eq_zero (by omega)
   have e2:ys=[]:=List.eq_nil_of_length_eq_zero (by omega)
   rw [e1,e2]
 · obtain ⟨b,o,rfl,h2⟩:=h.open_ h0
   obtain ⟨b',o',e,k2⟩:=k.open_ h0
   cases Option.some.inj e
   refine val_eq_of_same xs ys (by omega) fun i hi=>?_
   have h3:=h2 i (by omega)
   have k3:=k2 i (by omega)
   rw [h3] at k3
   injection k3 with k3
   injection k3 with _ k3
   exact Int.ofNat.inj k3
theorem IntAt.uniq {w:World} {b o:Nat} {n m:Int} (h:IntAt w b o n) (k:IntAt w b o m):n=m:=by
 obtain ⟨A,l,c,h0,h1,h2,_⟩:=h.open_
 obtain ⟨B,l',c',k0,k1,k2,_⟩:=k.open_
 rw [h1] at k1
 cases Option.some.inj k1
 rw [h0] at k0
 have e:=Option.some.inj k0
 injection e with e
 refine sg_inj e ?_
 have:=words_val h2 k2
 rw [← val_dig n.natAbs,this,val_dig]
structure SE (base b o:Nat) (n:Int) (w w':World):Prop where
 zero:∀ g,base≤g→IntAt w g 0 0→IntAt w' g 0 0∨IntAt w' g 0 n
 one:∀ g,base≤g→IntAt w g 0 1→IntAt w' g 0 1
 num:∀ g,base≤g→IntAt w g 0 n→IntAt w' g 0 n
 words:∀ v xs,Words w v xs→Words w' v xs
 stored:IntAt w b o n→IntAt w' b o n
theorem SE.below {base b o:Nat} {n:Int} {w w':World} (h:Below w.heap.size w w'):SE base b o n w w' :=
 ⟨fun _ _ k=>.inl (k.on h),fun _ _ k=>k.on h,fun _ _ k=>k.on h,fun _ _ k=>k.below h,fun k=>k.on h⟩
theorem SE.set {base b o g:Nat} {n:Int} {w w':World} (hb:b<base) (hg:base≤g) (h0:IntAt w g 0 0∨IntAt w g 0 n) (h1:IntAt w' g 0 n) (ht:Touch w w' g 0 2):SE base b o n w w':=by
 have hsl:Slot w g 0 2:=by rcases h0 with h | h<;>exact h.slot
 have far:∀ c m,c≠g→IntAt w c 0 m→IntAt w' c 0 m:=fun c m hc k=>k.touch hsl ht (.inl hc)
 have key:∀ c m,(m=1∨m=n)→IntAt w c 0 m→IntAt w' c 0 m:=by
  intro c m hm k
  by_cases e:c=g
  · subst e
    rcases h0 with h | h
    · have:=k.uniq h
      rcases hm with rfl | rfl
      · cases this
      · exact h1
    · have:=k.uniq h
      rw [this]
      exact h1
  · exact far c m e k
 refine ⟨fun c _ k=>?_,fun c _ k=>key c 1 (.inl rfl) k,fun c _ k=>key c n (.inr rfl) k,fun v xs k=>k.touch hsl ht,fun k=>k.touch hsl ht (.inl (by omega))⟩
 · by_cases e:c=g
   · subst e; exact .inr h1
   · exact .inl (far c 0 e k)
theorem SE.store {base b o:Nat} {n:Int} {w w':World} (hs:Slot w b o 4) (hb:b<base) (ht:Touch w w' b o 2) (hn:IntAt w' b o n):SE base b o n w w' :=
 ⟨fun _ hc k=>.inl (k.touch hs ht (.inl (by omega))),fun _ hc k=>k.touch hs ht (.inl (by omega)),fun _ hc k=>k.touch hs ht (.inl (by omega)),fun _ _ k=>k.touch hs ht,fun _=>hn⟩
theorem intAt_put {w:World} {b o:Nat} {s:Bool} {v:Value} {n:Int} (hs:Slot w b o 2) (hw:Words w v (dig n.natAbs)) (e:decide (n<0)=s) :
  IntAt ((w.setCell ⟨b,o,none⟩ (.bool s)).setCell ⟨b,o+1,none⟩ v) b o n∧Touch w ((w.setCell ⟨b,o,none⟩ (.bool s)).setCell ⟨b,o+1,none⟩ v) b o 2:=by
 have ht:Touch w ((w.setCell ⟨b,o,none⟩ (.bool s)).setCell ⟨b,o+1,none⟩ v) b o 2:=((Touch.refl w b o 2).set_ o (by omega) _).set_ (o+1) (by omega) _
 obtain ⟨cs,t,k1,k2,k3⟩:=id hs
 have hb:((w.setCell ⟨b,o,none⟩ (.bool s)).setCell ⟨b,o+1,none⟩ v).heap[b]?=some (.cells ((cs.setIfInBounds o (.bool s)).setIfInBounds (o+1) v) t (0,0)):=by
  simp [World.setCell,Array.getElem?_modify,k1]
 refine ⟨⟨hs.touch ht,?_,v,?_,hw.touch hs ht⟩,ht⟩
 · rw [cell_of_row _ _ _ _ _ _ hb,Array.getElem?_setIfInBounds_ne (by omega),Array.getElem?_setIfInBounds_self_of_lt (by omega),e]
 · rw [cell_of_row _ _ _ _ _ _ hb,Array.getElem?_setIfInBounds_self_of_lt (by simp; omega)]
theorem Touch.then_ {a b c:World} {g o n:Nat} (h:Touch a b g o n) (hg:g<a.heap.size) (k:Below a.heap.size b c):Touch a c g o n :=
 ⟨k.os.trans h.os,k.tape.trans h.tape,k.output.trans h.output,Nat.le_trans h.size k.size,fun j hj hne=>(k.block j hj).trans (h.block j hj hne),fun cs t fr hc=>by
  obtain ⟨cs1,k1,k2,k3⟩:=h.own cs t fr hc
  exact ⟨cs1,by rw [k.block g hg]; exact k1,k2,k3⟩⟩
set_option maxHeartbeats 1600000 in
set_option maxRecDepth 100000 in
theorem SetInt_any {w:World} {b o c p:Nat} {n:Int} (hz:Slot w b o 4) (hx:IntAt w c p n) (hne:c≠b) :
  Calls Tryz.prog 227 #[.pointer (some ⟨b,o,none⟩),.pointer (some ⟨c,p,none⟩)] w fun e w'=>e=.returned (.pointer (some ⟨b,o,none⟩))∧RatAt w' b o (n:Rat)∧Touch w w' b o 4:=by
 have HX:=Lib.hid hx
 have HZ:=Lib.hid hz
 have HNE:=Lib.hid hne
 obtain ⟨B,hB⟩:∃ B,B=w.heap.size:=⟨_,rfl⟩
 have HB:=Lib.hid hB
 have HBB:Hid (b<B):=by rw [hB]; exact hz.lt
 clear hx hz hne hB
 go_enter Tryz.func227,Tryz.ntmps227
 go_wp2
 refine wp_region_acts 13 (fun w'=>Touch w w' b o 4) (fun w w'=>SE B b o n w w') (fun i w v=>match i with
   | 0=>v=.pointer (some ⟨b,o,none⟩)
   | 1=>v=.pointer (some ⟨b,o,none⟩)
   | 2=>∃ g,v=.pointer (some ⟨g,0,none⟩)∧B≤g∧(IntAt w g 0 0∨IntAt w g 0 n)
   | 3=>v=.pointer (some ⟨c,p,none⟩)
   | 4=>∃ g,v=.pointer (some ⟨g,0,none⟩)∧B≤g∧IntAt w g 0 n
   | 5=>∃ g,v=.pointer (some ⟨g,0,none⟩)∧B≤g∧IntAt w g 0 n
   | 6=>∃ A l k,v=.agg #[.bool (decide (n<0)),.slice A l k]∧Words w (.slice A l k) (dig n.natAbs)
   | 7=>∃ g,v=.pointer (some ⟨g,0,none⟩)∧B≤g∧IntAt w g 0 1
   | 8=>∃ g,v=.pointer (some ⟨g,0,none⟩)∧B≤g∧IntAt w g 0 1
   | 9=>∃ A l k,v=.agg #[.bool (decide ((1:Int)<0)),.slice A l k]∧Words w (.slice A l k) (dig (1:Int).natAbs)
   | 10=>v=.pointer (some ⟨b,o,none⟩)
   | 11=>v=.pointer (some ⟨b,o,none⟩)
   | _=>IntAt w b o n) (by kernel_rfl) (by kernel_rfl) (by kernel_rfl) ((Touch.refl _ _ _ _).drew) (fun _ _=>SE.below (Below.refl _ _)) ?_ ⟨?_,?_,?_,?_,?_,?_,?_,?_,?_,?_,?_,?_,?_,trivial⟩ ?_
 · intro i w1 w2 v hC hC2 hE hV
   match i with
   | 0=>exact hV
   | 1=>exact hV
   | 2=>obtain ⟨g,e,hb,h⟩:=hV; exact ⟨g,e,hb,h.elim (fun h=>hE.zero g hb h) (fun h=>.inr (hE.num g hb h))⟩
   | 3=>exact hV
   | 4=>obtain ⟨g,e,hb,h⟩:=hV; exact ⟨g,e,hb,hE.num g hb h⟩
   | 5=>obtain ⟨g,e,hb,h⟩:=hV; exact ⟨g,e,hb,hE.num g hb h⟩
   | 6=>obtain ⟨A,l,k,e,h⟩:=hV; exact ⟨A,l,k,e,hE.words _ _ h⟩
   | 7=>obtain ⟨g,e,hb,h⟩:=hV; exact ⟨g,e,hb,hE.one g hb h⟩
   | 8=>obtain ⟨g,e,hb,h⟩:=hV; exact ⟨g,e,hb,hE.one g hb h⟩
   | 9=>obtain ⟨A,l,k,e,h⟩:=hV; exact ⟨A,l,k,e,hE.words _ _ h⟩
   | 10=>exact hV
   | 11=>exact hV
   | _+12=>exact hE.stored hV
 · intro a' w' hag hC hd K hK
   have e0:a'.tmps.getD 0 undef=.pointer (some ⟨b,o,none⟩):=hag 0 rfl
   go_step
   exact hK _ _ hC (SE.below (Below.refl _ _)) rfl
 · intro a' w' hag hC hd K hK
   have e0:a'.tmps.getD 0 undef=.pointer (some ⟨b,o,none⟩):=hag 0 rfl
   go_step
   exact hK _ _ hC (SE.below (Below.refl _ _)) rfl
 · intro a' w' hag hC hd K hK
   have hb:Below w'.heap.size w' (w'.alloc (.cells #[.bool false,.slice none 0 0] 177)):=(Below.refl _ _).alloc (Nat.le_refl _) _
   have HK:=Lib.hid (hK (.pointer (some ⟨w'.heap.size,0,none⟩)) _ (hC.then_below hb) (SE.below hb) ⟨_,rfl,by rw [HB.out]; exact hC.size,.inl (IntAt.new w')⟩)
   clear hb hK hC
   go_step
   exact HK.out
 · intro a' w' hag hC hd K hK
   have e1:a'.tmps.getD 1 undef=.pointer (some ⟨c,p,none⟩):=hag 1 rfl
   go_step
   exact hK _ _ hC (SE.below (Below.refl _ _)) rfl
 · intro a' w' hag hC hd K hK
   obtain ⟨g7,e7,hb7,h7⟩:=hd.1
   have e7:a'.tmps.getD 7 undef=.pointer (some ⟨g7,0,none⟩):=e7
   have e8:a'.tmps.getD 8 undef=.pointer (some ⟨c,p,none⟩):=hd.2.1
   have hs7:Slot w' g7 0 2:=by rcases h7 with h | h<;>exact h.slot
   have hx':=HX.out.touch HZ.out hC (.inl HNE.out)
   go_step
   refine (set_any hs7 hx').mono ?_
   rintro e w2 ⟨rfl,h1,h2⟩
   exact hK _ _ (hC.then_ HZ.out.lt (h2.below (by rw [← HB.out]; exact hb7) hC.size)) (SE.set HBB.out hb7 h7 h1 h2) ⟨_,rfl,hb7,h1⟩
 · intro a' w' hag hC hd K hK
   obtain ⟨g9,e9,hb9,h9⟩:=hd.1
   have e9:a'.tmps.getD 9 undef=.pointer (some ⟨g9,0,none⟩):=e9
   go_step
   exact hK _ _ hC (SE.below (Below.refl _ _)) ⟨g9,rfl,hb9,h9⟩
 · intro a' w' hag hC hd K hK
   obtain ⟨g9,e10,hb9,h9⟩:=hd.1
   have e10:a'.tmps.getD 10 undef=.pointer (some ⟨g9,0,none⟩):=e10
   obtain ⟨A,l,k,hc0,hc1,hcw,_⟩:=h9.open_
   rw [Nat.zero_add] at hc1
   generalize hs1:decide (n<0)=s1 at hc0
   have HS1:=Lib.hid hs1
   clear hs1
   have HK:=Lib.hid (hK (.agg #[.bool s1,.slice A l k]) _ hC (SE.below (Below.refl _ _)) ⟨A,l,k,by rw [HS1.out],hcw⟩)
   clear hK hC hcw
   go_step
   exact HK.out
 · intro a' w' hag hC hd K hK
   go_step
   refine (NewInt_any (by omega)).mono ?_
   rintro e w2 ⟨g,rfl,hg,h1,h2⟩
   exact hK _ _ (hC.then_below h2) (SE.below h2) ⟨_,rfl,by rw [HB.out]; exact Nat.le_trans hC.size hg,h1⟩
 · intro a' w' hag hC hd K hK
   obtain ⟨g12,e12,hb12,h12⟩:=hd.1
   have e12:a'.tmps.getD 12 undef=.pointer (some ⟨g12,0,none⟩):=e12
   go_step
   exact hK _ _ hC (SE.below (Below.refl _ _)) ⟨g12,rfl,hb12,h12⟩
 · intro a' w' hag hC hd K hK
   obtain ⟨g12,e13,hb12,h12⟩:=hd.1
   have e13:a'.tmps.getD 13 undef=.pointer (some ⟨g12,0,none⟩):=e13
   obtain ⟨A,l,k,hc0,hc1,hcw,_⟩:=h12.open_
   rw [Nat.zero_add] at hc1
   generalize hs1:decide ((1:Int)<0)=s1 at hc0
   have HS1:=Lib.hid hs1
   clear hs1
   have HK:=Lib.hid (hK (.agg #[.bool s1,.slice A l k]) _ hC (SE.below (Below.refl _ _)) ⟨A,l,k,by rw [HS1.out],hcw⟩)
   clear hK hC hcw
   go_step
   exact HK.out
 · intro a' w' hag hC hd K hK
   have e5:a'.tmps.getD 5 undef=.pointer (some ⟨b,o,none⟩):=hd.1
   go_step
   exact hK _ _ hC (SE.below (Below.refl _ _)) rfl
 · intro a' w' hag hC hd K hK
   have e15:a'.tmps.getD 15 undef=.pointer (some ⟨b,o,none⟩):=hd.1
   go_step
   exact hK _ _ hC (SE.below (Below.refl _ _)) rfl
 · intro a' w' hag hC hd K hK
   have e16:a'.tmps.getD 16 undef=.pointer (some ⟨b,o,none⟩):=hd.1
   obtain ⟨A11,l11,k11,e11,h11⟩:=hd.2.1
   have e11:a'.tmps.getD 11 undef=.agg #[.bool (decide (n<0)),.slice A11 l11 k11]:=e11
   have hs':=HZ.out.touch hC
   obtain ⟨v0,hv0⟩:=hs'.cell o (by omega)
   obtain ⟨v1,hv1⟩:=hs'.cell (o+1) (by omega)
   have hf:∀ i,w'.frozen? ⟨b,i,none⟩=false:=fun i=>hs'.frozen i
   generalize hs1:decide (n<0)=s1 at e11
   obtain ⟨k1,k2⟩:=intAt_put (show Slot w' b o 2 from hs'.part (by omega)) h11 hs1
   have HK:=Lib.hid (hK undef _ (hC.trans (k2.mono (Nat.le_refl _) (by omega))) (SE.store hs' HBB.out k2 k1) k1)
   clear hK hC k1 k2 hs1
   go_step
   exact HK.out
 · intro u w' hC hall
   obtain ⟨u0,u1,u2,u3,u4,u5,u6,u7,u8,u9,u10,u11,u12,_⟩:=hall
   have u0:u 0=.pointer (some ⟨b,o,none⟩):=u0
   have u1:u 1=.pointer (some ⟨b,o,none⟩):=u1
   have u3:u 3=.pointer (some ⟨c,p,none⟩):=u3
   obtain ⟨A14,l14,k14,eu9,h14⟩:=u9
   have u9:u 9=.agg #[.bool (decide ((1:Int)<0)),.slice A14 l14 k14]:=eu9
   have u10:u 10=.pointer (some ⟨b,o,none⟩):=u10
   have u11:u 11=.pointer (some ⟨b,o,none⟩):=u11
   simp only [fillR,List.take_succ_cons,List.take_zero,Act.put,List.setIfInBounds_toArray,List.set_cons_succ,List.set_cons_zero,Nat.zero_add,Nat.reduceAdd,u0,u1,u3,u9,u10,u11]
   clear u0 u1 u3 u9 u10 u11
   have hst:IntAt w' b o n:=u12
   have hs':=HZ.out.touch hC
   obtain ⟨v0,hv0⟩:=hs'.cell (o+2) (by omega)
   obtain ⟨v1,hv1⟩:=hs'.cell (o+2+1) (by omega)
   have hf:∀ i,w'.frozen? ⟨b,i,none⟩=false:=fun i=>hs'.frozen i
   generalize hs1:decide ((1:Int)<0)=s1
   obtain ⟨k1,k2⟩:=intAt_put (show Slot w' b (o+2) 2 from hs'.part (by omega)) h14 hs1
   have hn2:=hst.touch (hs'.part (show o+2+2≤o+4 by omega)) k2 (.inr (.inl (Nat.le_refl _)))
   have HT:=Lib.hid (hC.trans (k2.mono (by omega) (by omega)))
   have HR:Hid (RatAt ((w'.setCell ⟨b,o+2,none⟩ (.bool s1)).setCell ⟨b,o+2+1,none⟩ (.slice A14 l14 k14)) b o (n:Rat)):=by
    refine ⟨hs'.touch k2,?_,1,k1,.inl ?_⟩
    · rw [Rat.num_intCast]; exact hn2
    · rw [Rat.den_intCast]; rfl
   clear hC k1 k2 hs1 hst hn2 h14 hs' u12
   go_wp2
   go_ret
   exact ⟨rfl,HR.out,HT.out⟩
set_option maxHeartbeats 1600000 in
set_option maxRecDepth 100000 in
theorem rat_any {w0:World} (b c:Bool) (s t:ByteArray) (hs:s.size≤4294967296) (ht:t.size≤4294967296) (h0:numOf c t≠0) (k1:Okn (numOf b s)) (k2:Okn (numOf c t)) :
  Calls Tryz.prog 225 #[.agg #[.bool b,.string s,.bool c,.string t]] w0 fun e w'=>∃ g,e=.returned (.pointer (some ⟨g,0,none⟩))∧w0.heap.size≤g∧RatAt w' g 0 (Rat.divInt (numOf b s) (numOf c t))∧Below w0.heap.size w0 w':=by
 have HS:=Lib.hid hs
 have HT:=Lib.hid ht
 have H0:=Lib.hid h0
 have K1:=Lib.hid k1
 have K2:=Lib.hid k2
 obtain ⟨B,hB⟩:∃ B,B=w0.heap.size:=⟨_,rfl⟩
 have HB:=Lib.hid hB
 have HW:Hid (Below B w0 (w0.alloc (.cells #[.bool b,.string s,.bool c,.string t] 25))):=by rw [hB]; exact below_new _ _
 have HBX:=Lib.hid (BoxAt.new w0 #[.bool b,.string s,.bool c,.string t] 25)
 clear hs ht h0 k1 k2 hB
 go_enter Tryz.func225,Tryz.ntmps225
 go_wp2
 refine wp_region_acts 7 (fun w'=>Below B w0 w'∧BoxAt w' w0.heap.size #[.bool b,.string s,.bool c,.string t] 25) (fun w w'=>Below w.heap.size w w') (fun i w v=>match i with
   | 0=>∃ g,v=.pointer (some ⟨g,0,none⟩)∧B≤g∧Slot w g 0 4
   | 1=>v=.pointer (some ⟨w0.heap.size,0,none⟩)
   | 2=>v=.agg #[.bool b,.string s]
   | 3=>∃ g,v=.pointer (some ⟨g,0,none⟩)∧B≤g∧IntAt w g 0 (numOf b s)
   | 4=>v=.pointer (some ⟨w0.heap.size,2,none⟩)
   | 5=>v=.agg #[.bool c,.string t]
   | _=>∃ g,v=.pointer (some ⟨g,0,none⟩)∧B≤g∧IntAt w g 0 (numOf c t)) (by kernel_rfl) (by kernel_rfl) (by kernel_rfl) ⟨HW.out.drew,HBX.out⟩ (fun _ _=>(Below.refl _ _)) ?_ ⟨?_,?_,?_,?_,?_,?_,?_,trivial⟩ ?_
 · intro i w1 w2 v hC hC2 hE hV
   match i with
   | 0=>obtain ⟨g,e,hb,h⟩:=hV; exact ⟨g,e,hb,h.on hE⟩
   | 1=>exact hV
   | 2=>exact hV
   | 3=>obtain ⟨g,e,hb,h⟩:=hV; exact ⟨g,e,hb,h.on hE⟩
   | 4=>exact hV
   | 5=>exact hV
   | _+6=>obtain ⟨g,e,hb,h⟩:=hV; exact ⟨g,e,hb,h.on hE⟩
 · intro a' w' hag hC hd K hK
   have hb:=below_new w' (.cells #[.bool false,.slice none 0 0,.bool false,.slice none 0 0] 179)
   have HK:=Lib.hid (hK (.pointer (some ⟨w'.heap.size,0,none⟩)) _ ⟨hC.1.trans (hb.mono (by have:=hC.1.size; have:=HB.out; omega)),hC.2.on hb⟩ hb ⟨_,rfl,by have:=hC.1.size; have:=HB.out; omega,(RatAt.new w').slot⟩)
   clear hb hK hC
   go_step
   exact HK.out
 · intro a' w' hag hC hd K hK
   have e1:a'.tmps.getD 1 undef=.pointer (some ⟨w0.heap.size,0,none⟩):=hag 1 rfl
   go_step
   exact hK _ _ hC ((Below.refl _ _)) rfl
 · intro a' w' hag hC hd K hK
   have e4:a'.tmps.getD 4 undef=.pointer (some ⟨w0.heap.size,0,none⟩):=hd.1
   have hc0:=hC.2.cell 0 (.bool b) rfl
   have hc1:=hC.2.cell 1 (.string s) rfl
   have HK:=Lib.hid (hK (.agg #[.bool b,.string s]) _ hC (Below.refl _ _) rfl)
   clear hK hC
   go_step
   exact HK.out
 · intro a' w' hag hC hd K hK
   have e5:a'.tmps.getD 5 undef=.agg #[.bool b,.string s]:=hd.1
   go_step
   refine (number_any b s HS.out).mono ?_
   rintro e w2 ⟨g,rfl,hg,h1,h2⟩
   have hsz:B≤w'.heap.size:=by have:=hC.1.size; have:=HB.out; omega
   exact hK _ _ ⟨hC.1.trans (h2.mono hsz),hC.2.on h2⟩ h2 ⟨_,rfl,Nat.le_trans hsz hg,h1⟩
 · intro a' w' hag hC hd K hK
   have e1:a'.tmps.getD 1 undef=.pointer (some ⟨w0.heap.size,0,none⟩):=hag 1 rfl
   go_step
   exact hK _ _ hC ((Below.refl _ _)) rfl
 · intro a' w' hag hC hd K hK
   have e7:a'.tmps.getD 7 undef=.pointer (some ⟨w0.heap.size,2,none⟩):=hd.1
   have hc0:=hC.2.cell 2 (.bool c) rfl
   have hc1:=hC.2.cell 3 (.string t) rfl
   have HK:=Lib.hid (hK (.agg #[.bool c,.string t]) _ hC (Below.refl _ _) rfl)
   clear hK hC
   go_step
   exact HK.out
 · intro a' w' hag hC hd K hK
   have e8:a'.tmps.getD 8 undef=.agg #[.bool c,.string t]:=hd.1
   go_step
   refine (number_any c t HT.out).mono ?_
   rintro e w2 ⟨g,rfl,hg,h1,h2⟩
   have hsz:B≤w'.heap.size:=by have:=hC.1.size; have:=HB.out; omega
   exact hK _ _ ⟨hC.1.trans (h2.mono hsz),hC.2.on h2⟩ h2 ⟨_,rfl,Nat.le_trans hsz hg,h1⟩
 · intro u w' hC hall
   obtain ⟨u0,u1,u2,u3,u4,u5,u6,_⟩:=hall
   obtain ⟨g3,eu0,hb3,h3⟩:=u0
   have u0:u 0=.pointer (some ⟨g3,0,none⟩):=eu0
   have u1:u 1=.pointer (some ⟨w0.heap.size,0,none⟩):=u1
   have u2:u 2=.agg #[.bool b,.string s]:=u2
   obtain ⟨g6,eu3,hb6,h6⟩:=u3
   have u3:u 3=.pointer (some ⟨g6,0,none⟩):=eu3
   have u4:u 4=.pointer (some ⟨w0.heap.size,2,none⟩):=u4
   have u5:u 5=.agg #[.bool c,.string t]:=u5
   obtain ⟨g9,eu6,hb9,h9⟩:=u6
   have u6:u 6=.pointer (some ⟨g9,0,none⟩):=eu6
   simp only [fillR,List.take_succ_cons,List.take_zero,Act.put,List.setIfInBounds_toArray,List.set_cons_succ,List.set_cons_zero,Nat.zero_add,Nat.reduceAdd,u0,u1,u2,u3,u4,u5,u6]
   clear u0 u1 u2 u3 u4 u5 u6
   have HC:=Lib.hid hC.1
   have H3:=Lib.hid h3
   have H6:=Lib.hid h6
   have H9:=Lib.hid h9
   clear hC h3 h6 h9
   go_wp2_with fail
   refine (SetFrac_any H3.out H6.out H9.out H0.out K1.out K2.out).mono ?_
   rintro e w3 ⟨rfl,h1,h2⟩
   have H1:=Lib.hid h1
   have HE:=Lib.hid (HC.out.trans (h2.below hb3 (by have:=HC.out.size; have:=HB.out; omega)))
   clear h1 h2
   go_wp2
   go_ret
   exact ⟨_,rfl,by rw [← HB.out]; exact hb3,H1.out,by rw [← HB.out]; exact HE.out⟩
theorem wholeV_nat (d:Nat):wholeV (d:Int)=.agg #[.bool false,.string (mag d)]:=by
 unfold wholeV
 rw [show decide ((d:Int)<0)=false by simp,Int.natAbs_natCast]
theorem back_agg {w:World} {b o:Nat} {n:Int} (hx:IntAt w b o n) (hn:Okn n) :
  Calls Tryz.prog 106 #[.pointer (some ⟨b,o,none⟩)] w fun e w'=>∃ p s,e=.returned (.agg #[.bool p,.string s])∧Hid (p=decide (n<0))∧Hid (s=mag n.natAbs)∧Below w.heap.size w w' :=
 (back_any hx hn).mono fun e w' h=>⟨_,_,h.1,rfl,rfl,h.2⟩
set_option maxRecDepth 100000 in
theorem told_any {w:World} {b o:Nat} {q:Rat} (hx:RatAt w b o q) (hq:OkR q) :
  Calls Tryz.prog 234 #[.pointer (some ⟨b,o,none⟩)] w fun e w'=>∃ p s t,e=.returned (.agg #[.bool p,.string s,.bool false,.string t])∧Hid (p=decide (q.num<0))∧Hid (s=mag q.num.natAbs)∧Hid (t=mag q.den)∧Below w.heap.size w w':=by
 have HB:=Lib.hid (below_new w (.cells #[.bool false,.string ⟨#[]⟩,.bool false,.string ⟨#[]⟩] 25))
 have HC:=Lib.hid (BoxAt.new w #[.bool false,.string ⟨#[]⟩,.bool false,.string ⟨#[]⟩] 25)
 have HX:=Lib.hid (hx.on HB.out)
 have HQ:=Lib.hid hq
 clear hx hq
 go_enter Tryz.func234,Tryz.ntmps234
 go_wp2_with fail
 refine (rNum_any HX.out).mono ?_
 rintro e w1 ⟨g1,rfl,hg1,h1,hb1⟩
 have HB1:=Lib.hid hb1
 have H1:=Lib.hid h1
 clear h1 hb1
 go_wp2_with fail
 refine (back_agg H1.out HQ.out.num).mono ?_
 rintro e w2 ⟨p1,s1,rfl,hp1,hs1,hb2⟩
 have HB2:=Lib.hid (HB1.out.trans (hb2.mono HB1.out.size))
 clear hb2
 go_wp2_with fail
 refine (rDenom_any (HX.out.on HB2.out)).mono ?_
 rintro e w3 ⟨g3,rfl,hg3,h3,hb3⟩
 have HB3:=Lib.hid (HB2.out.trans (hb3.mono HB2.out.size))
 have H3:=Lib.hid h3
 clear h3 hb3
 go_wp2_with fail
 refine (back_agg H3.out HQ.out.den).mono ?_
 rintro e w4 ⟨p2,s2,rfl,hp2,hs2,hb4⟩
 have HB4:=Lib.hid (HB3.out.trans (hb4.mono HB3.out.size))
 clear hb4
 have hc:=fun i v h=>(HC.out.on HB4.out).cell i v h
 have hc0:=hc 0 _ rfl
 have hc1:=hc 1 _ rfl
 have hc2:=hc 2 _ rfl
 have hc3:=hc 3 _ rfl
 have hf:=(HC.out.on HB4.out).frozen
 have HK:=Lib.hid (((((HC.out.on HB4.out).set 0 (.bool p1)).set 1 (.string s1)).set 2 (.bool p2)).set 3 (.string s2))
 have HW:=Lib.hid (HB.out.trans (HB4.out.mono HB.out.size))
 clear hc
 go_wp2
 have h0:=HK.out.cell 0 (.bool p1) rfl
 have h1:=HK.out.cell 1 (.string s1) rfl
 have h2:=HK.out.cell 2 (.bool p2) rfl
 have h3:=HK.out.cell 3 (.string s2) rfl
 have hp:p2=false:=by rw [hp2.out]; simp
 subst hp
 exact bodyPost_ret (v:=.agg #[.bool p1,.string s1,.bool false,.string s2]) (by simp [results,Tryz.results234,go_sem,h0,h1,h2,h3]) rfl ⟨_,_,_,rfl,hp1,hs1,by rw [Hid,hs2.out,Int.natAbs_natCast],(((HW.out.setCell (Nat.le_refl _) _).setCell (Nat.le_refl _) _).setCell (Nat.le_refl _) _).setCell (Nat.le_refl _) _⟩
theorem shortF_any {w:World} (b:Bool) (s:ByteArray) (p:Bool) (hp:decide (s.size≤1024)=p) :
  Calls Tryz.prog 232 #[.agg #[.bool b,.string s]] w fun e w'=>e=.returned (.bool p)∧Below w.heap.size w w':=by
 have HB:=Lib.hid (below_new w (.cells #[.bool b,.string s] 23))
 have hq:decide ((s.size:Int)≤1024)=p:=by
  rw [← hp]
  exact decide_eq_decide.2 (by omega)
 clear hp
 go_enter Tryz.func232,Tryz.ntmps232
 go_wp2
 go_ret
 refine ⟨?_,HB.out⟩
 rw [← hq]
 rfl
def Fit (q:Rat):Prop:=(mag q.num.natAbs).size≤1024∧(mag q.den).size≤1024
end Go.Proofs.YthkpghhoffihmaaGreatDoor
end
