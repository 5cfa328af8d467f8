/- IntC, Bym, IntD, IntE, Wh, Nb, Rat, RegH, RatB. -/
import Derived.Laws.IdiomStrings
import Derived.Laws.BytesArg
import Derived.Laws.BitsLemmas
import Derived.Laws.StructEq
import Derived.Laws.Tables
import Derived.Test.YtbepimnlleilfaaGreatNk3
set_option linter.unnecessarySimpa false
set_option linter.unusedVariables false
set_option linter.unusedSimpArgs false
section
namespace Go.Proofs.YtbepimnlleilfaaGreat
open Go.RowKit
theorem SetInt64_any {w:World} {b o:Nat} {n:Int} (hz:Slot w b o 2) (hr : -9223372036854775808≤n∧n≤9223372036854775807) :
  Calls Tryz.prog 335 #[.pointer (some ⟨b,o,none⟩),.int .i64 n] w fun e w'=>e=.returned (.pointer (some ⟨b,o,none⟩))∧IntAt w' b o n∧Touch w w' b o 2:=by
 have HZ:=Lib.hid hz
 have HR:=Lib.hid hr
 obtain ⟨k,hk⟩:∃ k,k=n.natAbs:=⟨_,rfl⟩
 have HKB:Hid (k≤18446744073709551615):=by unfold Hid; omega
 have HS:Hid (sg (decide (n<0)) k=n):=by unfold Hid; rw [hk,sg_of]
 by_cases h:n<0
 · have hw1:IntKind.u64.wrap n=18446744073709551616+n:=by simp [IntKind.wrap,IntKind.bits,IntKind.signed]; omega
   have hw2:IntKind.u64.wrap (-(18446744073709551616+n))=(k:Int):=by simp [IntKind.wrap,IntKind.bits,IntKind.signed]; omega
   have hd:decide (n<0)=true:=by simpa using h
   rw [hd] at HS
   clear hz hr hk
   go_enter Tryz.func335,Tryz.ntmps335
   go_wp2_with fail
   refine (of_any k HKB.out).mono ?_
   rintro e w1 ⟨v,rfl,h1,h2⟩
   obtain ⟨A,m,c,rfl⟩:=h1.form
   have hz1:=HZ.out.on h2
   have H1:=Lib.hid h1
   have H2:=Lib.hid h2
   clear h1 h2
   go_wp2_with fail
   refine (is_any true hz1 H1.out).mono ?_
   rintro e w3 ⟨rfl,h1,h2⟩
   rw [qQ3,HS.out] at h1
   have H3:=Lib.hid h1
   have H4:=Lib.hid h2
   clear h1 h2 hz1
   go_wp2
   go_ret
   exact ⟨rfl,H3.out,(Touch.of_below H2.out b o 2).trans H4.out⟩
 · have hw1:IntKind.u64.wrap n=(k:Int):=by simp [IntKind.wrap,IntKind.bits,IntKind.signed]; omega
   have hd:decide (n<0)=false:=by simpa using h
   rw [hd] at HS
   clear hz hr hk
   go_enter Tryz.func335,Tryz.ntmps335
   go_wp2_with fail
   refine (of_any k HKB.out).mono ?_
   rintro e w1 ⟨v,rfl,h1,h2⟩
   obtain ⟨A,m,c,rfl⟩:=h1.form
   have hz1:=HZ.out.on h2
   have H1:=Lib.hid h1
   have H2:=Lib.hid h2
   clear h1 h2
   go_wp2_with fail
   refine (is_any false hz1 H1.out).mono ?_
   rintro e w3 ⟨rfl,h1,h2⟩
   rw [qQ3,HS.out] at h1
   have H3:=Lib.hid h1
   have H4:=Lib.hid h2
   clear h1 h2 hz1
   go_wp2
   go_ret
   exact ⟨rfl,H3.out,(Touch.of_below H2.out b o 2).trans H4.out⟩
theorem NewInt_any {w:World} {n:Int} (hr : -9223372036854775808≤n∧n≤9223372036854775807) :
  Calls Tryz.prog 247 #[.int .i64 n] w fun e w'=>∃ b,e=.returned (.pointer (some ⟨b,0,none⟩))∧w.heap.size≤b∧IntAt w' b 0 n∧Below w.heap.size w w':=by
 have HR:=Lib.hid hr
 clear hr
 go_enter Tryz.func247,Tryz.ntmps247
 go_wp2_with fail
 refine (SetInt64_any (b:=w.heap.size) (o:=0) ?_ HR.out).mono ?_
 · exact (IntAt.new _).slot
 rintro e w1 ⟨rfl,h1,h2⟩
 have H1:=Lib.hid h1
 have H2:=Lib.hid h2
 clear h1 h2
 go_wp2
 go_ret
 exact ⟨_,rfl,Nat.le_refl _,H1.out,((Below.refl _ _).alloc (Nat.le_refl _) _).trans (H2.out.below (Nat.le_refl _) ((Below.refl w.heap.size w).alloc (Nat.le_refl _) _).size)⟩
theorem sg_tdiv (n m:Int):sg (decide (n<0) != decide (m<0)) (n.natAbs/m.natAbs)=n.tdiv m:=by
 rcases Int.lt_or_le n 0 with h | h<;>rcases Int.lt_or_le m 0 with k | k
 · obtain ⟨a,rfl⟩:∃ a:Nat,n = -(a:Int):=⟨n.natAbs,by omega⟩
   obtain ⟨c,rfl⟩:∃ c:Nat,m = -(c:Int):=⟨m.natAbs,by omega⟩
   have h1:decide (-(a:Int)<0)=true:=by simpa using h
   have h2:decide (-(c:Int)<0)=true:=by simpa using k
   rw [h1,h2,Int.tdiv_neg,Int.neg_tdiv,Int.neg_neg,← Int.ofNat_tdiv,Int.natAbs_neg,Int.natAbs_neg,Int.natAbs_natCast,Int.natAbs_natCast]
   simp [sg]
 · obtain ⟨a,rfl⟩:∃ a:Nat,n = -(a:Int):=⟨n.natAbs,by omega⟩
   obtain ⟨c,rfl⟩:∃ c:Nat,m=(c:Int):=⟨m.natAbs,by omega⟩
   have h1:decide (-(a:Int)<0)=true:=by simpa using h
   have h2:decide ((c:Int)<0)=false:=by simpa using k
   rw [h1,h2,Int.neg_tdiv,← Int.ofNat_tdiv,Int.natAbs_neg,Int.natAbs_natCast,Int.natAbs_natCast]
   simp [sg]
 · obtain ⟨a,rfl⟩:∃ a:Nat,n=(a:Int):=⟨n.natAbs,by omega⟩
   obtain ⟨c,rfl⟩:∃ c:Nat,m = -(c:Int):=⟨m.natAbs,by omega⟩
   have h1:decide ((a:Int)<0)=false:=by simpa using h
   have h2:decide (-(c:Int)<0)=true:=by simpa using k
   rw [h1,h2,Int.tdiv_neg,← Int.ofNat_tdiv,Int.natAbs_neg,Int.natAbs_natCast,Int.natAbs_natCast]
   simp [sg]
 · obtain ⟨a,rfl⟩:∃ a:Nat,n=(a:Int):=⟨n.natAbs,by omega⟩
   obtain ⟨c,rfl⟩:∃ c:Nat,m=(c:Int):=⟨m.natAbs,by omega⟩
   have h1:decide ((a:Int)<0)=false:=by simpa using h
   have h2:decide ((c:Int)<0)=false:=by simpa using k
   rw [h1,h2,← Int.ofNat_tdiv,Int.natAbs_natCast,Int.natAbs_natCast]
   simp [sg]
theorem sg_tmod (n m:Int):sg (decide (n<0)) (n.natAbs % m.natAbs)=n.tmod m:=by
 have e:n.natAbs % m.natAbs=(n.tmod m).natAbs:=by rw [Int.natAbs_tmod]
 rw [e]
 by_cases h:n<0
 · have h1:decide (n<0)=true:=by simpa using h
   obtain ⟨a,rfl⟩:∃ a:Nat,n = -(a:Int):=⟨n.natAbs,by omega⟩
   rw [h1,Int.neg_tmod,Int.natAbs_neg]
   have:0≤(a:Int).tmod m:=Int.tmod_nonneg _ (Int.natCast_nonneg a)
   simp only [sg,if_true]
   omega
 · have h1:decide (n<0)=false:=by simpa using h
   have:0≤n.tmod m:=Int.tmod_nonneg _ (by omega)
   rw [h1]
   simp only [sg,Bool.false_eq_true,if_false]
   omega
theorem QuoRem_any {w:World} {b o c p d q g i:Nat} {n m:Int} (hz:Slot w b o 2) (hr:Slot w g i 2) (hx:IntAt w c p n) (hy:IntAt w d q m) (h0:m≠0) (hn:Okn n) :
  Calls Tryz.prog 373 #[.pointer (some ⟨b,o,none⟩),.pointer (some ⟨c,p,none⟩),.pointer (some ⟨d,q,none⟩),.pointer (some ⟨g,i,none⟩)] w fun e w'=>e=.returned (.tuple #[.pointer (some ⟨b,o,none⟩),.pointer (some ⟨g,i,none⟩)]) ∧
   ∃ w1,IntAt w1 g i (n.tmod m)∧Touch w w1 g i 2∧IntAt w' b o (n.tdiv m)∧Touch w1 w' b o 2:=by
 obtain ⟨A,la,ca,hx0,hx1,hxv,hxl⟩:=hx.open_
 obtain ⟨B,lb,cb,hy0,hy1,hyv,hyl⟩:=hy.open_
 have hm0:0<m.natAbs:=by omega
 have hla:la≤4294967296:=by have:=hxv.len.1; unfold Okn at hn; omega
 have HX0:=Lib.hid hx0
 have HX1:=Lib.hid hx1
 have HXV:=Lib.hid hxv
 have HY0:=Lib.hid hy0
 have HY1:=Lib.hid hy1
 have HYV:=Lib.hid hyv
 have HZ:=Lib.hid hz
 have HR:=Lib.hid hr
 have HM0:=Lib.hid hm0
 have HLA:=Lib.hid hla
 clear hx hy hx0 hx1 hxv hy0 hy1 hyv hz hr hm0 hla hn h0
 go_enter Tryz.func373,Tryz.ntmps373
 go_wp2
 refine qZ2 14 (fun w'=>Below w.heap.size w w') (fun w w'=>Below w.heap.size w w') (fun i w v=>match i with
   | 0=>v=.pointer (some ⟨c,p,none⟩)
   | 1=>v=.pointer (some ⟨c,p,none⟩)
   | 2=>v=.pointer (some ⟨c,p+1,none⟩)
   | 3=>v=.slice A la ca
   | 4=>v=.pointer (some ⟨d,q,none⟩)
   | 5=>v=.pointer (some ⟨d,q,none⟩)
   | 6=>v=.pointer (some ⟨d,q+1,none⟩)
   | 7=>v=.slice B lb cb
   | 8=>∃ A1 m1 c1 A2 m2 c2,v=.tuple #[.slice A1 m1 c1,.slice A2 m2 c2]∧Words w (.slice A1 m1 c1) (dig (n.natAbs/m.natAbs))∧Words w (.slice A2 m2 c2) (dig (n.natAbs % m.natAbs))
   | 9=>∃ A1 m1 c1 A2 m2 c2,v=.tuple #[.slice A1 m1 c1,.slice A2 m2 c2]∧Words w (.slice A1 m1 c1) (dig (n.natAbs/m.natAbs))∧Words w (.slice A2 m2 c2) (dig (n.natAbs % m.natAbs))
   | 10=>∃ A1 m1 c1,v=.slice A1 m1 c1∧Words w (.slice A1 m1 c1) (dig (n.natAbs/m.natAbs))
   | 11=>∃ A1 m1 c1,v=.slice A1 m1 c1∧Words w (.slice A1 m1 c1) (dig (n.natAbs % m.natAbs))
   | 12=>∃ A1 m1 c1,v=.slice A1 m1 c1∧Words w (.slice A1 m1 c1) (dig (n.natAbs/m.natAbs))
   | _=>∃ A1 m1 c1,v=.slice A1 m1 c1∧Words w (.slice A1 m1 c1) (dig (n.natAbs % m.natAbs))) (by kernel_rfl) (by kernel_rfl) (by kernel_rfl) ((Below.refl _ _).drew) (fun _ _=>Below.refl _ _) ?_ ⟨?_,?_,?_,?_,?_,?_,?_,?_,?_,?_,?_,?_,?_,?_,trivial⟩ ?_
 · intro i w1 w2 v hC hC2 hE hV
   match i with
   | 0=>exact hV
   | 1=>exact hV
   | 2=>exact hV
   | 3=>exact hV
   | 4=>exact hV
   | 5=>exact hV
   | 6=>exact hV
   | 7=>exact hV
   | 8=>obtain ⟨A1,m1,c1,A2,m2,c2,e,h,k⟩:=hV; exact ⟨A1,m1,c1,A2,m2,c2,e,h.below hE,k.below hE⟩
   | 9=>obtain ⟨A1,m1,c1,A2,m2,c2,e,h,k⟩:=hV; exact ⟨A1,m1,c1,A2,m2,c2,e,h.below hE,k.below hE⟩
   | 10=>obtain ⟨A1,m1,c1,e,h⟩:=hV; exact ⟨A1,m1,c1,e,h.below hE⟩
   | 11=>obtain ⟨A1,m1,c1,e,h⟩:=hV; exact ⟨A1,m1,c1,e,h.below hE⟩
   | 12=>obtain ⟨A1,m1,c1,e,h⟩:=hV; exact ⟨A1,m1,c1,e,h.below hE⟩
   | _+13=>obtain ⟨A1,m1,c1,e,h⟩:=hV; exact ⟨A1,m1,c1,e,h.below hE⟩
 · intro a' w' hag hC hd K hK
   have e1:a'.tmps.getD 1 undef=.pointer (some ⟨c,p,none⟩):=hag 1 rfl
   go_step
   exact hK _ _ hC (Below.refl _ _) rfl
 · intro a' w' hag hC hd K hK
   have e15:a'.tmps.getD 15 undef=.pointer (some ⟨c,p,none⟩):=hd.1
   go_step
   exact hK _ _ hC (Below.refl _ _) rfl
 · intro a' w' hag hC hd K hK
   have e16:a'.tmps.getD 16 undef=.pointer (some ⟨c,p,none⟩):=hd.1
   go_step
   exact hK _ _ hC (Below.refl _ _) rfl
 · intro a' w' hag hC hd K hK
   have e17:a'.tmps.getD 17 undef=.pointer (some ⟨c,p+1,none⟩):=hd.1
   have hcell:w'.cell? ⟨c,p+1,none⟩=some (.slice A la ca):=by rw [hC.cell (p:=⟨c,p+1,none⟩) hxl]; exact HX1.out
   have HC:=Lib.hid hC
   clear hC
   go_step
   exact hK _ _ HC.out (Below.refl _ _) rfl
 · intro a' w' hag hC hd K hK
   have e2:a'.tmps.getD 2 undef=.pointer (some ⟨d,q,none⟩):=hag 2 rfl
   go_step
   exact hK _ _ hC (Below.refl _ _) rfl
 · intro a' w' hag hC hd K hK
   have e19:a'.tmps.getD 19 undef=.pointer (some ⟨d,q,none⟩):=hd.1
   go_step
   exact hK _ _ hC (Below.refl _ _) rfl
 · intro a' w' hag hC hd K hK
   have e20:a'.tmps.getD 20 undef=.pointer (some ⟨d,q,none⟩):=hd.1
   go_step
   exact hK _ _ hC (Below.refl _ _) rfl
 · intro a' w' hag hC hd K hK
   have e21:a'.tmps.getD 21 undef=.pointer (some ⟨d,q+1,none⟩):=hd.1
   have hcell:w'.cell? ⟨d,q+1,none⟩=some (.slice B lb cb):=by rw [hC.cell (p:=⟨d,q+1,none⟩) hyl]; exact HY1.out
   have HC:=Lib.hid hC
   clear hC
   go_step
   exact hK _ _ HC.out (Below.refl _ _) rfl
 · intro a' w' hag hC hd K hK
   have e18:a'.tmps.getD 18 undef=.slice A la ca:=hd.1
   have e22:a'.tmps.getD 22 undef=.slice B lb cb:=hd.2.1
   go_step
   refine (divide_any (HXV.out.below hC) (HYV.out.below hC) HM0.out HLA.out).mono ?_
   rintro e w2 ⟨v1,v2,rfl,h1,h2,h3⟩
   obtain ⟨A1,m1,c1,rfl⟩:=h1.form
   obtain ⟨A2,m2,c2,rfl⟩:=h2.form
   exact hK _ _ (hC.trans (h3.mono hC.size)) h3 ⟨_,_,_,_,_,_,rfl,h1,h2⟩
 · intro a' w' hag hC hd K hK
   obtain ⟨A1,m1,c1,A2,m2,c2,e23,hq',hr'⟩:=hd.1
   have e23:a'.tmps.getD 23 undef=.tuple #[.slice A1 m1 c1,.slice A2 m2 c2]:=e23
   go_step
   exact hK _ _ hC (Below.refl _ _) ⟨A1,m1,c1,A2,m2,c2,rfl,hq',hr'⟩
 · intro a' w' hag hC hd K hK
   obtain ⟨A1,m1,c1,A2,m2,c2,e14,hq',hr'⟩:=hd.1
   have e14:a'.tmps.getD 14 undef=.tuple #[.slice A1 m1 c1,.slice A2 m2 c2]:=e14
   go_step
   exact hK _ _ hC (Below.refl _ _) ⟨_,_,_,rfl,hq'⟩
 · intro a' w' hag hC hd K hK
   obtain ⟨A1,m1,c1,A2,m2,c2,e14,hq',hr'⟩:=hd.1
   have e14:a'.tmps.getD 14 undef=.tuple #[.slice A1 m1 c1,.slice A2 m2 c2]:=e14
   go_step
   exact hK _ _ hC (Below.refl _ _) ⟨_,_,_,rfl,hr'⟩
 · intro a' w' hag hC hd K hK
   obtain ⟨A1,m1,c1,e24,hq'⟩:=hd.1
   have e24:a'.tmps.getD 24 undef=.slice A1 m1 c1:=e24
   go_step
   exact hK _ _ hC (Below.refl _ _) ⟨A1,m1,c1,rfl,hq'⟩
 · intro a' w' hag hC hd K hK
   obtain ⟨A2,m2,c2,e25,hr'⟩:=hd.1
   have e25:a'.tmps.getD 25 undef=.slice A2 m2 c2:=e25
   go_step
   exact hK _ _ hC (Below.refl _ _) ⟨A2,m2,c2,rfl,hr'⟩
 · intro u w' hC hall
   obtain ⟨u0,u1,u2,u3,u4,u5,u6,u7,u8,u9,u10,u11,u12,u13,_⟩:=hall
   have u0:u 0=.pointer (some ⟨c,p,none⟩):=u0
   have u1:u 1=.pointer (some ⟨c,p,none⟩):=u1
   have u2:u 2=.pointer (some ⟨c,p+1,none⟩):=u2
   have u3:u 3=.slice A la ca:=u3
   have u4:u 4=.pointer (some ⟨d,q,none⟩):=u4
   have u5:u 5=.pointer (some ⟨d,q,none⟩):=u5
   have u6:u 6=.pointer (some ⟨d,q+1,none⟩):=u6
   have u7:u 7=.slice B lb cb:=u7
   obtain ⟨A1,m1,c1,eu12,hq'⟩:=u12
   have u12:u 12=.slice A1 m1 c1:=eu12
   obtain ⟨A2,m2,c2,eu13,hr'⟩:=u13
   have u13:u 13=.slice A2 m2 c2:=eu13
   simp only [qZ7,List.take_succ_cons,List.take_zero,Act.put,List.setIfInBounds_toArray,List.set_cons_succ,List.set_cons_zero,Nat.zero_add,Nat.reduceAdd,u0,u1,u2,u3,u4,u5,u6,u7,u12,u13]
   clear u0 u1 u2 u3 u4 u5 u6 u7 u12 u13
   have hcx:w'.cell? ⟨c,p,none⟩=some (.bool (decide (n<0))):=by rw [hC.cell (p:=⟨c,p,none⟩) hxl]; exact HX0.out
   have hcy:w'.cell? ⟨d,q,none⟩=some (.bool (decide (m<0))):=by rw [hC.cell (p:=⟨d,q,none⟩) hyl]; exact HY0.out
   have HC:=Lib.hid hC
   have HQ:=Lib.hid hq'
   have HRR:=Lib.hid hr'
   clear hC hq' hr'
   go_wp2
   go_quiet (fail)
   clear hcx hcy
   go_wp2_with (at_builtin; refine zX3 rfl (.const (.slice none 0 0)) (.tmp 41) rfl _ _ _ _ rfl rfl HRR.out (fun v' w2 h1 h2=>?_))
   obtain ⟨A3,m3,c3,rfl⟩:=h1.form
   have hb2:Below w.heap.size w w2:=HC.out.trans ((Below.drewN_ (Below.refl _ _) nq).trans (h2.mono HC.out.size))
   have hr2:Slot w2 g i 2:=HR.out.on hb2
   have hz2:Slot w2 b o 2:=HZ.out.on hb2
   have hq2:Words w2 (.slice A1 m1 c1) (dig (n.natAbs/m.natAbs)):=HQ.out.below ((Below.drewN_ (Below.refl w'.heap.size w') nq).trans h2)
   refine (is_any (decide (n<0)) hr2 h1).mono ?_
   rintro e w3 ⟨rfl,h3,h4⟩
   rw [qQ3,sg_tmod] at h3
   have hq3:=hq2.touch hr2 h4
   have hz3:=hz2.touch h4
   have HQ3:=Lib.hid hq3
   have HZ3:=Lib.hid hz3
   have H3:=Lib.hid h3
   have H4:=Lib.hid h4
   have HB2:=Lib.hid hb2
   clear h1 h2 h3 h4 hb2 hr2 hz2 hq2 hq3 hz3
   go_wp2_with fail
   refine (is_any (decide (n<0) != decide (m<0)) HZ3.out HQ3.out).mono ?_
   rintro e w4 ⟨rfl,h5,h6⟩
   rw [qQ3,sg_tdiv] at h5
   have H5:=Lib.hid h5
   have H6:=Lib.hid h6
   clear h5 h6
   go_wp2
   go_ret2
   exact ⟨rfl,_,H3.out,(Touch.of_below HB2.out g i 2).trans H4.out,H5.out,H6.out⟩
theorem Quo_any {w:World} {b o c p d q:Nat} {n m:Int} (hz:Slot w b o 2) (hx:IntAt w c p n) (hy:IntAt w d q m) (h0:m≠0) (hn:Okn n) :
  Calls Tryz.prog 334 #[.pointer (some ⟨b,o,none⟩),.pointer (some ⟨c,p,none⟩),.pointer (some ⟨d,q,none⟩)] w fun e w'=>e=.returned (.pointer (some ⟨b,o,none⟩))∧IntAt w' b o (n.tdiv m)∧Touch w w' b o 2:=by
 have HX:=Lib.hid hx
 have HY:=Lib.hid hy
 have HZ:=Lib.hid hz
 have HN:=Lib.hid hn
 have H0:=Lib.hid h0
 clear hx hy hz hn h0
 go_enter Tryz.func334,Tryz.ntmps334
 go_wp2_with fail
 have ha:Below w.heap.size w (w.alloc (.cells #[.bool false,.slice none 0 0] 161)):=(Below.refl _ _).alloc (Nat.le_refl _) _
 refine (QuoRem_any (HZ.out.on ha) (IntAt.new w).slot (HX.out.on ha) (HY.out.on ha) H0.out HN.out).mono ?_
 rintro e w2 ⟨rfl,w1,_,h1,h2,h3⟩
 have H2:=Lib.hid h2
 have HT:Hid (Touch w w2 b o 2):=(Touch.of_below (ha.trans (h1.below (Nat.le_refl _) ha.size)) b o 2).trans h3
 clear h1 h2 h3 ha
 go_wp2
 go_ret
 exact ⟨rfl,H2.out,HT.out⟩
theorem Okn.small {n:Int} (h:n.natAbs<4294967296^100):Okn n:=Nat.le_trans (qX8 _ 100 h) (by decide)
def qZ9 (n:Int):Value:=.agg #[.bool (decide (n<0)),.string (mag n.natAbs)]
def fracV (q:Rat):Value:=.agg #[.bool (decide (q.num<0)),.string (mag q.num.natAbs),.bool false,.string (mag q.den)]
def Byt (w:World) (v:Value) (xs:List Nat):Prop :=
 B8 xs∧∃ b cap cs t fr,v=.slice (some ⟨b,0,none⟩) xs.length cap∧w.heap[b]?=some (.cells cs t fr)∧∀ i,i<xs.length→cs[i]?=some (.int .u8 (xs.getD i 0:Nat))
theorem Byt.on {w w':World} {v:Value} {xs:List Nat} (h:Byt w v xs) (k:Below w.heap.size w w'):Byt w' v xs:=by
 obtain ⟨h0,b,cap,cs,t,fr,h1,h2,h3⟩:=h
 exact ⟨h0,b,cap,cs,t,fr,h1,by rw [k.block b (qZ6 h2)]; exact h2,h3⟩
theorem Byt.form {w:World} {v:Value} {xs:List Nat} (h:Byt w v xs):∃ b n cap,v=.slice (some ⟨b,0,none⟩) n cap:=by
 obtain ⟨_,b,cap,_,_,_,h1,_⟩:=h
 exact ⟨b,_,cap,h1⟩
theorem Byt.open_ {w:World} {b n cap:Nat} {xs:List Nat} (h:Byt w (.slice (some ⟨b,0,none⟩) n cap) xs):n=xs.length∧B8 xs∧b<w.heap.size∧∀ i,i<xs.length→w.cell? ⟨b,i,none⟩=some (.int .u8 (xs.getD i 0:Nat)):=by
 obtain ⟨h0,b',cap',cs,t,fr,h1,h2,h3⟩:=h
 injection h1 with h1 h4 h5
 cases Option.some.inj h1
 exact ⟨h4,h0,qZ6 h2,fun i hi=>by rw [cell_of_row _ _ _ _ _ _ h2]; exact h3 i hi⟩
theorem strOfNums_nat (xs:List Nat):strOfNums (xs.map Int.ofNat)=strN xs:=by
 have e:(xs.map Int.ofNat).map (fun n:Int=>UInt8.ofNat n.toNat)=xs.map UInt8.ofNat:=by
  rw [List.map_map]
  exact List.map_congr_left fun x _=>rfl
 unfold strOfNums strN
 rw [e]
theorem zW5 {w:World} {v:Value} {xs:List Nat} (h:Byt w v xs):(convert 306 9 v).run Tryz.prog w=.ok (.string (strN xs)) w:=by
 obtain ⟨b,n,cap,rfl⟩:=h.form
 obtain ⟨h1,h2,_,h4⟩:=h.open_
 have hc:∀ i,i<n→w.cell? ⟨b,0+i,none⟩=some (.int .u8 ((xs.map Int.ofNat).getD i 0)):=by
  intro i hi
  have hi2:i<xs.length:=by omega
  rw [Nat.zero_add,h4 i hi2]
  simp only [List.getD,List.getElem?_map,List.getElem?_eq_getElem hi2,Option.map_some,Option.getD_some]
  rfl
 rw [← strOfNums_nat]
 exact run_convert_bytes_arg (P:=Tryz.prog) w _ _ Tryz.underlying306 Tryz.underlying5 b 0 n cap (xs.map Int.ofNat) (by rw [List.length_map,h1]) hc _ Tryz.underlying9
def BBuf (w:World) (g:Nat) (xs:List Nat):Prop :=
 B8 xs∧∃ cs,w.heap[g]?=some (.cells cs 5 (0,0))∧xs.length≤cs.size∧∀ i,i<xs.length→cs[i]?=some (.int .u8 (xs.getD i 0:Nat))
theorem BBuf.lt {w:World} {g:Nat} {xs:List Nat} (h:BBuf w g xs):g<w.heap.size:=by obtain ⟨_,_,h,_⟩:=h; exact qZ6 h
theorem BBuf.cell {w:World} {g:Nat} {xs:List Nat} (h:BBuf w g xs) (i:Nat) (hi:i<xs.length):w.cell? ⟨g,i,none⟩=some (.int .u8 (xs.getD i 0:Nat)):=by
 obtain ⟨_,cs,h1,_,h3⟩:=h
 rw [cell_of_row w g i cs _ _ h1]
 exact h3 i hi
theorem BBuf.frozen {w:World} {g:Nat} {xs:List Nat} (h:BBuf w g xs) (i:Nat):w.frozen? ⟨g,i,none⟩=false:=by
 obtain ⟨_,cs,h1,_⟩:=h
 simp [World.frozen?,h1]
theorem B8.set {xs:List Nat} (h:B8 xs) (i x:Nat) (hx:x<256):B8 (xs.set i x):=by
 intro y hy
 rcases List.mem_or_eq_of_mem_set hy with h1 | rfl
 · exact h y h1
 · exact hx
theorem B8.zeros (k:Nat):B8 (List.replicate k 0):=by
 intro x hx
 rw [(List.mem_replicate.1 hx).2]; decide
theorem BBuf.set {w:World} {g:Nat} {xs:List Nat} (h:BBuf w g xs) (i x:Nat) (n:Int) (hx:x<256) (hn:n=x):BBuf (w.setCell ⟨g,i,none⟩ (.int .u8 n)) g (xs.set i x):=by
 obtain ⟨hw,cs,h1,h2,h3⟩:=h
 subst hn
 refine ⟨hw.set i x hx,cs.setIfInBounds i (.int .u8 (x:Int)),by simp [World.setCell,Array.getElem?_modify,h1],by simpa using h2,fun j hj=>?_⟩
 rw [List.length_set] at hj
 rw [Array.getElem?_setIfInBounds,getD_set]
 by_cases hij:i=j
 · subst hij
   rw [if_pos rfl,if_pos (by omega),if_pos ⟨rfl,hj⟩]
 · simp [hij]
   have:=h3 j hj
   simpa using this
theorem BBuf.byt {w:World} {g cap n:Nat} {xs:List Nat} (h:BBuf w g xs) (hn:xs.length=n):Byt w (.slice (some ⟨g,0,none⟩) n cap) xs:=by
 obtain ⟨hw,cs,h1,h2,h3⟩:=h
 exact ⟨hw,g,cap,cs,_,_,by rw [hn],h1,h3⟩
theorem u8_info:(Tryz.prog.info? 5).map (fun i=>(i.zero,i.size,i.bytes))=some (some (.int .u8 0),1,1):=by kernel_rfl
theorem madeCells_byte (n i:Nat) (h:i<n):(madeCells (Value.int .u8 0).cells n)[i]?=some (.int .u8 0):=by
 simp [madeCells,h,Value.cells,Nat.mod_one]
theorem run_make_bytes (w:World) (kl kc:IntKind) (l c:Int) (n m:Nat) (hl:l=n) (hc:c=m) (hnm:n≤m) (hm:m≤34359738368) :
  ∃ w',(Instr.makeSlice 306 (.int kl l) (.int kc c)).run Tryz.prog w=.ok (.slice (some ⟨w.heap.size,0,none⟩) n m) w'∧BBuf w' w.heap.size (List.replicate m 0)∧Below w.heap.size w w'∧w'.heap.size=w.heap.size+1:=by
 obtain ⟨i0,hi,hz0,hz1,hz2⟩:=info_parts u8_info
 subst hl hc
 have hr:=run_make (P:=Tryz.prog) w 306 5 i0 (.int .u8 0) Tryz.underlying306 hi hz0 kl kc n m (by omega) (by omega) (by rw [hz2]; omega) (by omega)
 rw [hz1] at hr
 simp only [Int.toNat_natCast,Nat.mul_one] at hr
 refine ⟨_,hr,⟨B8.zeros m,_,heap_alloc_new w _,by simp [size_madeCells],fun i hi=>?_⟩,(Below.refl _ _).alloc (Nat.le_refl _) _,by simp⟩
 rw [List.length_replicate] at hi
 rw [madeCells_byte m i hi,getD_in (by simpa using hi),List.getElem_replicate]
 rfl
theorem zQ0 {ops:Array Oper} {rest:List Oper} {o:Oper} {a:Act} {w:World} {Q:Exit→Act→World→Prop} (hg:o.guard=none) (l c:Operand) (hop:o.op=Op.makeSlice 306 l c)
  (kl kc:IntKind) (L C:Int) (n m:Nat) (hl:a.eval l=.int kl L) (hc:a.eval c=.int kc C) (hL:L=n) (hC:C=m) (hnm:n≤m) (hm:m≤34359738368)
  (hK:∀ w',BBuf w' w.heap.size (List.replicate m 0)→Below w.heap.size w w'→w'.heap.size=w.heap.size+1→wpList Tryz.prog ops Q rest (a.put o.dst (.slice (some ⟨w.heap.size,0,none⟩) n m)) w') :
  wpList Tryz.prog ops Q (o::rest) a w:=by
 refine wpList_plain hg fun K hK'=>?_
 obtain ⟨w',hrun,r1,r2,r3⟩:=run_make_bytes w kl kc L C n m hL hC hnm hm
 unfold Oper.wp
 simp [execOp,hop,hl,hc,hrun,Result.andThen]
 exact hK' _ _ (hK w' r1 r2 r3)
def BoxAt (w:World) (g:Nat) (cs:Array Value) (t:TypeId):Prop:=w.heap[g]?=some (.cells cs t (0,0))
theorem BoxAt.new (w:World) (cs:Array Value) (t:TypeId):BoxAt (w.alloc (.cells cs t)) w.heap.size cs t:=heap_alloc_new w _
theorem BoxAt.lt {w:World} {g:Nat} {cs:Array Value} {t:TypeId} (h:BoxAt w g cs t):g<w.heap.size:=qZ6 h
theorem BoxAt.on {w w':World} {g:Nat} {cs:Array Value} {t:TypeId} (h:BoxAt w g cs t) (k:Below w.heap.size w w'):BoxAt w' g cs t:=by
 unfold BoxAt
 rw [k.block g h.lt]
 exact h
theorem BoxAt.cell {w:World} {g:Nat} {cs:Array Value} {t:TypeId} (h:BoxAt w g cs t) (i:Nat) (v:Value) (hv:cs[i]?=some v):w.cell? ⟨g,i,none⟩=some v:=by
 rw [cell_of_row w g i cs _ _ h]
 exact hv
theorem BoxAt.set {w:World} {g:Nat} {cs:Array Value} {t:TypeId} (h:BoxAt w g cs t) (i:Nat) (u:Value):BoxAt (w.setCell ⟨g,i,none⟩ u) g (cs.setIfInBounds i u) t:=by
 unfold BoxAt at h
 unfold BoxAt
 simp [World.setCell,Array.getElem?_modify,h]
theorem BoxAt.frozen {w:World} {g:Nat} {cs:Array Value} {t:TypeId} (h:BoxAt w g cs t) (i:Nat):w.frozen? ⟨g,i,none⟩=false:=by
 unfold BoxAt at h
 simp [World.frozen?,h]
theorem wraps_w32 (n:Int) (h0:0≤n) (h1:n<2^32):IntKind.u32.wrap n=n:=by
 simp [IntKind.wrap,IntKind.bits,IntKind.signed]; omega
theorem or_w32 (a b:Nat) (ha:a<4294967296) (hb:b<4294967296):bits BinOp.or IntKind.u32 (a:Int) (b:Int)=((a ||| b:Nat):Int):=(bits_nat .u32 32 (by decide) wraps_w32 a b ha hb).2
theorem top_bits (m l t j:Nat) (hl:(dig m).length=l) (h0:0<l) (ht:(dig m).getD (l-1) 0=t) (hj:j≤31) (h1:t*2^j<4294967296) (h2:2147483648≤t*2^j) :
  m<2^(32*l-j)∧2^(32*l-j-1)≤m:=by
 have hm:=qV3 m
 rw [hl] at hm
 obtain ⟨k,rfl⟩:∃ k,l=k+1:=⟨l-1,by omega⟩
 rw [Nat.add_sub_cancel,zK1] at ht
 rw [Nat.pow_succ] at hm
 have h3:m/4294967296^k<4294967296:=Nat.div_lt_of_lt_mul hm
 rw [Nat.mod_eq_of_lt h3] at ht
 have hP:0<4294967296^k:=Nat.pow_pos (by decide)
 have e1:2^(32*(k+1)-j)=4294967296^k*2^(32-j):=by
  rw [p32,← Nat.pow_add]
  congr 1
  omega
 have e2:2^(32*(k+1)-j-1)=4294967296^k*2^(31-j):=by
  rw [p32,← Nat.pow_add]
  congr 1
  omega
 have e3:2^(32-j)*2^j=4294967296:=by rw [← Nat.pow_add,show 32-j+j=32 by omega]
 have e4:2^(31-j)*2^j=2147483648:=by rw [← Nat.pow_add,show 31-j+j=31 by omega]
 have hJ:0<2^j:=Nat.pow_pos (by decide)
 have h5:t<2^(32-j):=by rw [← e3] at h1; exact Nat.lt_of_mul_lt_mul_right h1
 have h6:2^(31-j)≤t:=by rw [← e4] at h2; exact Nat.le_of_mul_le_mul_right h2 hJ
 rw [e1,e2]
 subst ht
 exact ⟨(Nat.div_lt_iff_lt_mul hP).1 h5 |> fun h=>by rw [Nat.mul_comm]; exact h,by rw [Nat.mul_comm]; exact (Nat.le_div_iff_mul_le hP).1 h6⟩
theorem dig_top (m:Nat) (h:dig m≠[]):(dig m).getD ((dig m).length-1) 0≠0:=by
 have h0:0<m:=by
  rcases Nat.eq_zero_or_pos m with k | k
  · subst k; exact absurd qJ4 h
  · exact k
 have h1:=dig_len_ge m h0
 have h2:=qV3 m
 have h3:0<(dig m).length:=List.length_pos_iff.2 h
 rw [zK1]
 generalize (dig m).length=k at *
 obtain ⟨j,rfl⟩:∃ j,k=j+1:=⟨k-1,by omega⟩
 rw [Nat.add_sub_cancel] at *
 rw [Nat.pow_succ] at h2
 have h5:0<4294967296^j:=Nat.pow_pos (by decide)
 have h6:m/4294967296^j<4294967296:=Nat.div_lt_of_lt_mul h2
 have h7:0<m/4294967296^j:=Nat.div_pos h1 h5
 omega
def Bits (m L:Nat):Prop:=m<2^L∧(0<L→2^(L-1)≤m)
theorem BitLen_any {w:World} {b o:Nat} {n:Int} (hx:IntAt w b o n) :
  Calls Tryz.prog 344 #[.pointer (some ⟨b,o,none⟩)] w fun e w'=>∃ L:Nat,e=.returned (.int .i64 (L:Int))∧Bits n.natAbs L∧L≤549755813888∧Below w.heap.size w w':=by
 obtain ⟨A,l,c,h0,h1,h2,_⟩:=hx.open_
 have hl:=h2.len.1
 have hlb:=h2.2.1
 rw [← hl] at hlb
 have hf:=hx.slot.frozen o
 have HX:=Lib.hid hx
 clear hf h0
 rcases Nat.eq_zero_or_pos l with hz | hz
 · subst hz
   have hn:n.natAbs=0:=(qX4 _).1 (List.eq_nil_of_length_eq_zero hl.symm)
   have HN:=Lib.hid hn
   clear hn hl h2 hx
   go_enter Tryz.func344,Tryz.ntmps344
   go_wp2
   go_ret
   exact ⟨0,rfl,by rw [HN.out]; exact ⟨by decide,fun h=>absurd h (by decide)⟩,by decide,Below.refl _ _⟩
 · have ht0:(dig n.natAbs).getD (l-1) 0≠0:=by
    rw [hl]
    exact dig_top _ fun e=>by rw [e] at hl; simp [hl] at hz
   obtain ⟨g,p,rfl,hc⟩:=h2.open_ hz
   have hc:=hc (l-1) (by omega)
   obtain ⟨t,ht⟩:∃ t,t=(dig n.natAbs).getD (l-1) 0:=⟨_,rfl⟩
   have ht32:t<4294967296:=by rw [ht]; exact (zZ4 _).getD _
   have htp:0<t:=by omega
   replace hc:w.cell? ⟨g,p+(l-1),none⟩=some (.int .u32 (t:Int)):=by rw [ht]; exact hc
   have hfin:=fun j hj h1 h2=>top_bits n.natAbs l t j hl.symm hz ht.symm hj h1 h2
   have HF:=Lib.hid hfin
   have hl0:(0:Int)≤(l:Int)-1:=by omega
   clear hl h2 hx ht0 ht hfin
   go_enter Tryz.func344,Tryz.ntmps344
   go_wp2
   go_region
   go_wp2
   go_loopw [3,4] (fun i c wr=>∃ k T:Nat,k≤31∧i=.int .i64 (((32*l-k:Nat):Int))∧c=.int .u32 (T:Int)∧T<4294967296∧0<T∧Hid (T=t*2^k)∧Below w.heap.size w wr) (fun _ c _=>(4294967296-intOf c).toNat)
   case atStart=>exact ⟨0,t,by omega,by rw [Nat.sub_zero]; go_num,rfl,ht32,htp,by simp [Hid],by first | exact Below.refl _ _ | exact Below.drewN_ (Below.refl _ _) _⟩
   case round =>
    obtain ⟨k,T,hk,rfl,rfl,hT,hT0,HTT,hbb⟩:=hrel
    by_cases hdone:T<2147483648
    · have hq:(((T:Int)/2147483648)==0)=true:=by rw [beq_iff_eq]; omega
      go_wp2
      go_roundw
      case rel =>
       refine ⟨k+1,T*2,?_,by go_num,by go_num,by omega,by omega,?_,hbb⟩
       · rcases Nat.lt_or_ge k 31 with h | h
         · omega
         · exfalso
           have h1:=HTT.out
           have h2:t*2^31≤t*2^k:=Nat.mul_le_mul_left _ (Nat.pow_le_pow_right (by omega) h)
           omega
       · rw [Hid,HTT.out,Nat.pow_succ,Nat.mul_assoc]
      case measure=>simp [intOf]; omega
    · have hq:(((T:Int)/2147483648)==0)=false:=by rw [beq_eq_false_iff_ne]; omega
      have HG:=Lib.hid (HF.out k hk (by rw [← HTT.out]; exact hT) (by rw [← HTT.out]; omega))
      clear hc
      go_wp2
      go_ret
      exact ⟨32*l-k,rfl,⟨HG.out.1,fun _=>HG.out.2⟩,by omega,hbb⟩
theorem byte_into (ls ys:List Nat) (i x q s:Nat) (hw:Wf ls) (hl:i/4<ls.length) (hv:val ls=bval (ys.take i)) (hy:B8 ys) (hi:i<ys.length) (hx:ys.getD i 0=x) (hq:q=i/4) (hs:s=i % 4*8) :
  x<256∧ls.getD q 0<2^s∧(ls.getD q 0 ||| x*2^s)=ls.getD q 0+x*2^s∧ls.getD q 0+x*2^s<4294967296∧val (ls.set q (ls.getD q 0+x*2^s))=bval (ys.take (i+1)):=by
 have h1:x<256:=by rw [← hx]; exact hy.getD i
 have h2:=bval_lt (ys.take i) (hy.take i)
 rw [List.length_take,Nat.min_eq_left (by omega),← hv,p256] at h2
 have hs4:s≤24:=by omega
 have hqs:32*q+s=8*i:=by omega
 have h3:ls.getD q 0<2^s:=by
  rw [val_getD ls hw q]
  refine Nat.lt_of_le_of_lt (Nat.mod_le _ _) ?_
  rw [p32]
  refine Nat.div_lt_of_lt_mul ?_
  rw [← Nat.pow_add,hqs]
  exact h2
 have h4:=or_add (ls.getD q 0) x s h3
 have h5:ls.getD q 0+x*2^s<4294967296:=by
  have h6:x*2^s≤255*2^s:=Nat.mul_le_mul_right _ (by omega)
  have h7:2^s≤2^24:=Nat.pow_le_pow_right (by decide) hs4
  omega
 refine ⟨h1,h3,h4,h5,?_⟩
 have h8:=val_set ls q (ls.getD q 0+x*2^s) (by omega)
 rw [Nat.mul_add] at h8
 have h9:val (ls.set q (ls.getD q 0+x*2^s))=val ls+4294967296^q*(x*2^s):=by omega
 rw [h9,hv,bval_take_step,hx,p32,p256,← hqs,Nat.pow_add]
 congr 1
 rw [Nat.mul_comm x,Nat.mul_assoc]
set_option maxRecDepth 100000 in
theorem SetBytes_any {w:World} {b o h m cap:Nat} {xs:List Nat} (hz:Slot w b o 2) (hv:Byt w (.slice (some ⟨h,0,none⟩) m cap) xs) (hm:m≤4294967296) :
  Calls Tryz.prog 272 #[.pointer (some ⟨b,o,none⟩),.slice (some ⟨h,0,none⟩) m cap] w fun e w'=>e=.returned (.pointer (some ⟨b,o,none⟩))∧IntAt w' b o (bval xs.reverse)∧Touch w w' b o 2:=by
 obtain ⟨hlen,h8,hlt,_⟩:=hv.open_
 obtain ⟨ys,hys⟩:∃ ys,ys=xs.reverse:=⟨_,rfl⟩
 rw [← hys]
 have HY8:Hid (B8 ys):=by rw [hys]; exact h8.reverse
 have HYL:Hid (ys.length=m):=by rw [hys,Hid,List.length_reverse,hlen]
 have HYX:Hid (∀ i,i<m→xs.getD (m-1-i) 0=ys.getD i 0):=by
  intro i hi
  rw [getD_in (by omega),getD_in (by rw [HYL.out]; exact hi)]
  subst hys
  rw [List.getElem_reverse]
  congr 1
  omega
 have HZ:=Lib.hid hz
 have HV:=Lib.hid hv
 clear hz hv hys hlen h8 hlt
 go_enter Tryz.func272,Tryz.ntmps272
 go_wp2_with (at_make; refine qQ4 rfl _ _ rfl _ _ _ _ ((m+3)/4) ((m+3)/4) rfl rfl (by omega) (by omega) (by omega) (by omega) ?_)
 intro w1 hbuf hb1 hz1
 have HZ1:=Lib.hid hz1
 clear hz1
 go_wp2
 go_loopw [15] (fun i wr=>∃ (k:Nat) (ls:List Nat),k≤m∧i=.int .i64 (k:Int)∧Hid (ls.length=(m+3)/4)∧Hid (val ls=bval (ys.take k))∧Buf wr w.heap.size ls∧Below w.heap.size w wr) (fun i _=>m-(intOf i).toNat)
 case atStart=>exact ⟨0,List.replicate ((m+3)/4) 0,by omega,rfl,by simp [Hid],by rw [Hid,zJ5]; rfl,hbuf,hb1⟩
 case round =>
  obtain ⟨k,ls,hk,rfl,HL,HVL,hbuf',hb'⟩:=hrel
  have hsz:=hb'.size
  have hblt:=hbuf'.lt
  clear hbuf hb1 HZ1
  by_cases hk0:k<m
  · obtain ⟨-,-,hhl,hcell⟩:=(HV.out.on hb').open_
    obtain ⟨q,hq⟩:∃ q,q=k/4:=⟨_,rfl⟩
    obtain ⟨r,hr⟩:∃ r,r=k % 4:=⟨_,rfl⟩
    obtain ⟨s,hs⟩:∃ s,s=k % 4*8:=⟨_,rfl⟩
    obtain ⟨x,hx⟩:∃ x,x=ys.getD k 0:=⟨_,rfl⟩
    obtain ⟨a,ha⟩:∃ a,a=ls.getD q 0:=⟨_,rfl⟩
    obtain ⟨k1,k2,k3,k4,k5⟩:=byte_into ls ys k x q s hbuf'.1 (by rw [HL.out]; omega) HVL.out HY8.out (by rw [HYL.out]; exact hk0) hx.symm hq hs
    have hqi:(k:Int)/4=(q:Int):=by omega
    have hri:(k:Int) % 4=(r:Int):=by omega
    have hsi:(r:Int)*8=(s:Int):=by omega
    have hs24:s≤24:=by omega
    have hc1:=hcell (m-1-k) (by have:=HYL.out; have h:=HV.out.open_.1; omega)
    rw [HYX.out k hk0,← hx] at hc1
    have hc2:=hbuf'.cell q (by rw [HL.out]; omega)
    rw [← ha] at hc2 k2 k3 k4 k5
    have hf:=hbuf'.frozen q
    have HB:=Lib.hid (hbuf'.set q (a+x*2^s) _ k4 rfl)
    have hne:h≠w.heap.size:=by have:=HV.out.open_.2.2.1; omega
    obtain ⟨t,ht⟩:∃ t,t=x*2^s:=⟨_,rfl⟩
    have hti:(x:Int)*2^s=(t:Int):=by rw [ht,Int.natCast_mul,Int.natCast_pow]; rfl
    rw [← ht] at k3 k4 k5 HB
    have hor:bits BinOp.or IntKind.u32 (a:Int) (t:Int)=((a+t:Nat):Int):=by rw [or_w32 a t (by omega) (by omega),k3]
    rw [Int.natCast_add] at hor HB
    have hmk:(0:Int)≤(m:Int)-1-(k:Int):=by omega
    have hmk2:((m:Int)-1-(k:Int))=((m-1-k:Nat):Int):=by omega
    have HK5:=Lib.hid k5
    have hql:q<(m+3)/4:=by omega
    have hpk:m-1-k<m:=by omega
    clear hcell ha hx ht hq hr hs k2 k3 k5 hbuf'
    go_wp2
    go_region
    go_wp2
    go_roundw
    case rel =>
     refine ⟨k+1,ls.set q (a+t),by omega,by go_num,by rw [Hid,List.length_set]; exact HL.out,HK5.out,HB.out,Below.drew (hb'.setCell (Nat.le_refl _) _)⟩
    case measure=>simp [intOf]; omega
  · obtain rfl:k=m:=by omega
    have hw:=hbuf'.words (cap:=(k+3)/4) (by rw [HL.out]; omega) (by rw [HL.out]; exact Nat.le_refl _)
    rw [HL.out] at hw
    have HW:=Lib.hid hw
    have hv:=HVL.out
    rw [List.take_of_length_le (by rw [HYL.out]; exact Nat.le_refl _)] at hv
    have HVV:=Lib.hid hv
    have hz1:=HZ.out.on hb'
    clear hbuf' hw hv
    go_wp2_with fail
    refine (is_any false hz1 HW.out).mono ?_
    rintro e w3 ⟨rfl,h1,h2⟩
    rw [HVV.out] at h1
    have H3:=Lib.hid h1
    have H4:=Lib.hid h2
    clear h1 h2 hz1
    go_wp2
    go_ret
    refine ⟨rfl,?_,(Touch.of_below hb' b o 2).trans H4.out⟩
    have:=H3.out
    simpa [sg] using this
theorem led_back (n m k:Nat) (h:(led n).length=m) (hk:k<m) :
  (List.replicate (m-k) 0++(led n).reverse.drop (m-k)).set (m-1-k) (n/256^k % 256)=List.replicate (m-(k+1)) 0++(led n).reverse.drop (m-(k+1)):=by
 obtain ⟨j,hj⟩:∃ j,m-k=j+1:=⟨m-k-1,by omega⟩
 rw [show m-1-k=j by omega,show m-(k+1)=j by omega,hj]
 have e:(led n).reverse.drop j=(n/256^k % 256)::(led n).reverse.drop (j+1):=by
  rw [List.drop_eq_getElem_cons (by rw [List.length_reverse]; omega)]
  congr 1
  rw [List.getElem_reverse,← led_getD,getD_in (by omega)]
  congr 1
  omega
 rw [e,List.replicate_succ']
 rw [List.append_assoc,List.set_append_right _ _ (by simp)]
 simp
theorem Bits.le {n L k:Nat} (h:Bits n L) (hk:n<2^k):L≤k:=by
 rcases Nat.eq_zero_or_pos L with h0 | h0
 · omega
 · have h1:=h.2 h0
   have:=(Nat.pow_lt_pow_iff_right (by decide:1<2)).1 (Nat.lt_of_le_of_lt h1 hk)
   omega
set_option maxRecDepth 100000 in
theorem Bytes_any {w:World} {b o:Nat} {n:Int} (hx:IntAt w b o n) (hn:Okn n) :
  Calls Tryz.prog 266 #[.pointer (some ⟨b,o,none⟩)] w fun e w'=>∃ v,e=.returned v∧Byt w' v (led n.natAbs).reverse∧Below w.heap.size w w':=by
 have HX:=Lib.hid hx
 have HO:=Lib.hid hn
 clear hx hn
 go_enter Tryz.func266,Tryz.ntmps266
 go_wp2_with fail
 refine (BitLen_any HX.out).mono ?_
 rintro e w1 ⟨L,rfl,hL,hLb,hb1⟩
 obtain ⟨N,hN⟩:∃ N,N=n.natAbs:=⟨_,rfl⟩
 have ho:=HO.out
 unfold Okn at ho
 rw [← hN] at hL ho
 obtain ⟨m,hm⟩:∃ m,m=(L+7)/8:=⟨_,rfl⟩
 have HM:Hid ((led N).length=m):=by rw [hm]; exact led_len_bits N L hL.1 hL.2
 have hmi:((L:Int)+7)/8=(m:Int):=by omega
 have hLL:=hL.le (by have:=qV3 N; rw [p32] at this; exact this)
 have hmb:m≤17179869185:=by omega
 have HN:=Lib.hid hN
 have HB1:=Lib.hid hb1
 have HS1:Hid (w.heap.size≤w1.heap.size):=hb1.size
 clear hL hm hb1 hN hLL ho
 go_wp2_with (at_make; refine zQ0 rfl _ _ rfl _ _ _ _ m m rfl rfl (by omega) (by omega) (Nat.le_refl _) (by omega) ?_)
 intro w2 hbuf hb2 hz2
 have HB2:=Lib.hid hz2
 clear hz2
 go_wp2
 go_loopw [14] (fun i wr=>∃ (k:Nat),k≤m∧i=.int .i64 (k:Int)∧BBuf wr w1.heap.size (List.replicate (m-k) 0++(led N).reverse.drop (m-k))∧Below w1.heap.size w1 wr) (fun i _=>m-(intOf i).toNat)
 case atStart=>exact ⟨0,by omega,rfl,by rw [Nat.sub_zero,List.drop_of_length_le (by rw [List.length_reverse,HM.out]; exact Nat.le_refl _),List.append_nil]; exact hbuf,hb2⟩
 case round =>
  obtain ⟨k,hk,rfl,hbuf',hb'⟩:=hrel
  have hsz:=hb'.size
  have hblt:=hbuf'.lt
  clear hbuf hb2 HB2
  by_cases hk0:k<m
  · have hx:=HX.out.on (HB1.out.trans (hb'.mono HS1.out))
    obtain ⟨A,l,c,h0,h1,h2,hlt⟩:=hx.open_
    rw [← HN.out] at h2
    have hl:=h2.len.1
    obtain ⟨q,hq⟩:∃ q,q=k/4:=⟨_,rfl⟩
    obtain ⟨r,hr⟩:∃ r,r=k % 4:=⟨_,rfl⟩
    obtain ⟨s,hs⟩:∃ s,s=k % 4*8:=⟨_,rfl⟩
    have hql:q<l:=by
     have h3:=zJ2 N (4*l) (by have:=qV3 N; rw [← hl,p32] at this; rw [p256]; rwa [show 8*(4*l)=32*l by omega])
     have:=HM.out
     omega
    obtain ⟨g,p,rfl,hall⟩:=h2.open_ (by omega)
    have hc:=hall q hql
    obtain ⟨x,hx'⟩:∃ x,x=N/4294967296^q % 4294967296:=⟨_,rfl⟩
    have hx32:x<4294967296:=by rw [hx']; exact Nat.mod_lt _ (by decide)
    replace hc:wr.cell? ⟨g,p+q,none⟩=some (.int .u32 (x:Int)):=by rw [hx',← zK1]; exact hc
    obtain ⟨y,hy⟩:∃ y,y=x/2^s:=⟨_,rfl⟩
    have hsh:(x:Int)/2^s=(y:Int):=by rw [hy,Int.natCast_ediv]; simp
    have hyb:y<4294967296:=by rw [hy]; exact Nat.lt_of_le_of_lt (Nat.div_le_self _ _) hx32
    have hbyte:y % 256=N/256^k % 256:=by rw [hy,hx',hq,hs]; exact byte_word N k
    have HBY:=Lib.hid hbyte
    have hqi:(k:Int)/4=(q:Int):=by omega
    have hri:(k:Int) % 4=(r:Int):=by omega
    have hsi:(r:Int)*8=(s:Int):=by omega
    have hs24:s≤24:=by omega
    have hmk2:((m:Int)-1-(k:Int))=((m-1-k:Nat):Int):=by omega
    have hc2:=hbuf'.cell (m-1-k) (by rw [List.length_append,List.length_replicate]; omega)
    have hf:=hbuf'.frozen (m-1-k)
    have HB:=Lib.hid (hbuf'.set (m-1-k) (y % 256) _ (Nat.mod_lt _ (by decide)) rfl)
    have HH:=Lib.hid hb'
    clear hall h0 h2 hx hl hx' hy hbyte hbuf' hb' hq hr hs
    go_wp2
    go_roundw
    case rel =>
     refine ⟨k+1,by omega,by go_num,?_,HH.out.setCell (Nat.le_refl _) _⟩
     have h:=HB.out
     have h2:=led_back N m k HM.out hk0
     rw [← HBY.out] at h2
     rw [h2] at h
     exact h
    case measure=>simp [intOf]; omega
  · obtain rfl:k=m:=by omega
    rw [Nat.sub_self,List.replicate_zero,List.nil_append,List.drop_zero] at hbuf'
    have HV:=Lib.hid (hbuf'.byt (n:=k) (cap:=k) (by rw [List.length_reverse]; exact HM.out))
    clear hbuf'
    go_wp2
    go_ret
    exact ⟨_,rfl,by rw [← HN.out]; exact HV.out,HB1.out.trans (hb'.mono HS1.out)⟩
theorem qY7 {s:ByteArray} (h:s.size=0):s=⟨#[]⟩:=by
 obtain ⟨d⟩:=s
 congr 1
 exact Array.eq_empty_of_size_eq_zero h
theorem zQ1 {s:ByteArray} (h:s.size≠0):s.toList.isEmpty=false∧¬ s.toList=[]:=by
 have h2:¬ s.toList=[]:=by
  rw [ByteArray.toList_eq]
  intro e
  have e2:s.data.toList.length=0:=by rw [e]; rfl
  have e3:s.data.size=0:=by rw [← Array.length_toList]; exact e2
  exact h e3
 exact ⟨by cases hl:s.toList with
  | nil=>exact absurd hl h2
  | cons a r=>rfl,h2⟩
def head (s:ByteArray):Nat:=(leS s).getD (s.size-1) 0
theorem head_eq {s:ByteArray} (h:0<s.size):s[0].toNat=head s:=by
 unfold head
 rw [leS_getD s _ (by omega)]
 have e:s.size-1-(s.size-1)=0:=by omega
 simp only [e]
 rfl
def qH8 (b:Bool) (s:ByteArray):Prop:=(s.size=0∧b=false∨s.size≠0∧head s≠0)∧s.size≤16384
set_option maxRecDepth 100000 in
theorem zX2 {w:World} (b:Bool) (s:ByteArray) (hs:s.size≤maxLen) :
  Calls Tryz.prog 126 #[.agg #[.bool b,.string s]] w fun e w'=>∃ k:Int,e=.returned (.int .i64 k)∧(k=0∧qH8 b s∨k=2∧¬ qH8 b s)∧Below w.heap.size w w':=by
 have hb:Hid (Below w.heap.size w (w.alloc (.cells #[.bool b,.string s] 23))):=(Below.refl _ _).alloc (Nat.le_refl _) _
 by_cases h0:s.size=0
 · obtain rfl:=qY7 h0
   clear h0 hs
   cases b
   · go_enter Tryz.func126,Tryz.ntmps126
     go_wp2
     go_ret
     exact ⟨0,rfl,.inl ⟨rfl,.inl ⟨rfl,rfl⟩,by decide⟩,hb.out⟩
   · go_enter Tryz.func126,Tryz.ntmps126
     go_wp2
     go_ret
     exact ⟨2,rfl,.inr ⟨rfl,fun h=>h.1.elim (fun k=>Bool.noConfusion k.2) (fun k=>k.1 rfl)⟩,hb.out⟩
 · obtain ⟨hE,hE2⟩:=zQ1 h0
   have hp:0<s.size:=by omega
   obtain ⟨t,ht⟩:∃ t,t=head s:=⟨_,rfl⟩
   have ht2:s[0].toNat=t:=by rw [ht]; exact head_eq hp
   have HW:Hid (qH8 b s↔t≠0∧s.size≤16384):=by
    unfold Hid qH8
    rw [ht]
    exact ⟨fun h=>⟨h.1.elim (fun k=>absurd k.1 h0) (fun k=>k.2),h.2⟩,fun h=>⟨.inr ⟨h0,h.1⟩,h.2⟩⟩
   have h00:(s.size:Int)≠0:=by omega
   clear ht
   by_cases hz:t=0
   · subst hz
     go_enter Tryz.func126,Tryz.ntmps126
     go_wp2
     go_ret
     exact ⟨2,rfl,.inr ⟨rfl,fun h=>(HW.out.1 h).1 rfl⟩,hb.out⟩
   · have hz1:((t:Int)==0)=false:=by rw [beq_eq_false_iff_ne]; omega
     by_cases hl:s.size≤16384
     · go_enter Tryz.func126,Tryz.ntmps126
       go_wp2
       go_ret
       exact ⟨0,rfl,.inl ⟨rfl,HW.out.2 ⟨hz,hl⟩⟩,hb.out⟩
     · have hl2:(16384:Int)<(s.size:Int):=by omega
       go_enter Tryz.func126,Tryz.ntmps126
       go_wp2
       go_ret
       exact ⟨2,rfl,.inr ⟨rfl,fun h=>hl (HW.out.1 h).2⟩,hb.out⟩
def qJ6 (b:Bool) (s:ByteArray):Int:=sg b (num s)
theorem head_lean {b:Bool} {s:ByteArray} (h:qH8 b s):Plain1 s:=by
 rcases h.1 with h1 | h1
 · exact .inl h1.1
 · exact .inr h1.2
theorem numOf_ok {b:Bool} {s:ByteArray} (h:qH8 b s):decide (qJ6 b s<0)=b∧mag (qJ6 b s).natAbs=s∧(qJ6 b s).natAbs=num s:=by
 have h1:=mag_num (head_lean h)
 have h2:s.size≠0→num s≠0:=by
  intro k e
  rw [e,mag_zero] at h1
  rw [← h1] at k
  exact k rfl
 have h3:(qJ6 b s).natAbs=num s:=by unfold qJ6 sg; cases b<;>simp
 refine ⟨?_,by rw [h3,h1],h3⟩
 rcases h.1 with h4 | h4
 · have:num s=0:=by have:=num_lt s; rw [h4.1] at this; omega
   rw [h4.2]
   unfold qJ6 sg
   simp [this]
 · have:=h2 h4.1
   unfold qJ6 sg
   cases b
   · simp
   · simp; omega
theorem ok_wholeV (n:Int) (h:(mag n.natAbs).size≤16384):qH8 (decide (n<0)) (mag n.natAbs):=by
 refine ⟨?_,h⟩
 rcases mag_lean n.natAbs with k | k
 · refine .inl ⟨k,?_⟩
   rw [mag_size] at k
   have:=(zY2 _).1 (List.eq_nil_of_length_eq_zero k)
   simp; omega
 · by_cases h0:(mag n.natAbs).size=0
   · refine .inl ⟨h0,?_⟩
     rw [mag_size] at h0
     have:=(zY2 _).1 (List.eq_nil_of_length_eq_zero h0)
     simp; omega
   · exact .inr ⟨h0,k⟩
theorem zV6 (n:Int):qJ6 (decide (n<0)) (mag n.natAbs)=n:=by
 unfold qJ6
 rw [num_mag,sg_of]
set_option maxRecDepth 100000 in
theorem WSign_any {w:World} (b:Bool) (s:ByteArray) (hs:s.size≤maxLen) :
  Calls Tryz.prog 260 #[.agg #[.bool b,.string s]] w fun e w'=>∃ k:Int,e=.returned (.int .i64 k)∧(qH8 b s∧k=(qJ6 b s).sign∨¬ qH8 b s∧k=0)∧Below w.heap.size w w':=by
 have hb:Below w.heap.size w (w.alloc (.cells #[.bool b,.string s] 23)):=(Below.refl _ _).alloc (Nat.le_refl _) _
 have HB:=Lib.hid hb
 have HS:=Lib.hid hs
 have HX:=Lib.hid (BoxAt.new w #[.bool b,.string s] 23)
 clear hb hs
 by_cases ho:qH8 b s
 · have HO:=Lib.hid ho
   by_cases h0:s.size=0
   · obtain rfl:=qY7 h0
     have hb0:b=false:=ho.1.elim (fun h=>h.2) (fun h=>absurd rfl h.1)
     subst hb0
     clear ho h0
     go_enter Tryz.func260,Tryz.ntmps260
     go_wp2_with fail
     refine (zX2 false ⟨#[]⟩ HS.out).mono ?_
     rintro e w1 ⟨k,rfl,hk,h1⟩
     obtain rfl:k=0:=hk.elim (fun h=>h.1) (fun h=>absurd HO.out h.2)
     have hc0:=(HX.out.on h1).cell 0 _ rfl
     have hc1:=(HX.out.on h1).cell 1 _ rfl
     have HB1:=Lib.hid (HB.out.trans (h1.mono HB.out.size))
     clear hk h1
     go_wp2
     go_ret
     exact ⟨0,rfl,.inl ⟨HO.out,rfl⟩,HB1.out⟩
   · obtain ⟨hE,hE2⟩:=zQ1 h0
     have hn:=numOf_ok ho
     have hnz:num s≠0:=by
      intro e
      have:=mag_num (head_lean ho)
      rw [e,mag_zero] at this
      rw [← this] at h0
      exact h0 rfl
     have HN:=Lib.hid hn
     have HNZ:=Lib.hid hnz
     clear ho h0 hn hnz
     cases b
     all_goals
      go_enter Tryz.func260,Tryz.ntmps260
      go_wp2_with fail
      refine (zX2 _ s HS.out).mono ?_
      rintro e w1 ⟨k,rfl,hk,h1⟩
      obtain rfl:k=0:=hk.elim (fun h=>h.1) (fun h=>absurd HO.out h.2)
      have hc0:=(HX.out.on h1).cell 0 _ rfl
      have hc1:=(HX.out.on h1).cell 1 _ rfl
      have HB1:=Lib.hid (HB.out.trans (h1.mono HB.out.size))
      clear hk h1
      go_wp2
      go_ret
     · refine ⟨1,rfl,.inl ⟨HO.out,?_⟩,HB1.out⟩
       obtain ⟨h1,h2,h3⟩:=HN.out
       have:=HNZ.out
       rw [Int.sign_eq_one_of_pos]
       simp at h1
       omega
     · refine ⟨-1,rfl,.inl ⟨HO.out,?_⟩,HB1.out⟩
       obtain ⟨h1,h2,h3⟩:=HN.out
       rw [Int.sign_eq_neg_one_of_neg]
       simpa using h1
 · have HO:=Lib.hid ho
   clear ho
   go_enter Tryz.func260,Tryz.ntmps260
   go_wp2_with fail
   refine (zX2 _ s HS.out).mono ?_
   rintro e w1 ⟨k,rfl,hk,h1⟩
   obtain rfl:k=2:=hk.elim (fun h=>absurd h.2 HO.out) (fun h=>h.1)
   have HB1:=Lib.hid (HB.out.trans (h1.mono HB.out.size))
   clear hk h1
   go_wp2
   go_ret
   exact ⟨0,rfl,.inr ⟨HO.out,rfl⟩,HB1.out⟩
theorem size_alloc (w:World) (o:Obj):(w.alloc o).heap.size=w.heap.size+1:=by simp
theorem byt_row {W:World} (s:ByteArray) (c cap n:Nat) (fr:Nat × Nat) (hn:n=W.heap.size):Byt ((W.alloc (.cells (bytesRow s c) 5 fr)).drew) (.slice (some ⟨n,0,none⟩) s.size cap) (leS s).reverse:=by
 subst hn
 have hl:(leS s).reverse.length=s.size:=by rw [List.length_reverse,leS_len]
 refine ⟨(B8_leS s).reverse,W.heap.size,cap,bytesRow s c,5,fr,by rw [hl],?_,?_⟩
 · exact heap_alloc_new W _
 · intro i hi
   rw [hl] at hi
   have hd:i<s.data.size:=hi
   rw [bytesRow_at s _ i hd,leS,List.reverse_reverse,getD_in (by rw [List.length_map]; exact hd),List.getElem_map]
   rfl
theorem IntAt.new_at {w:World} {n:Nat} (hn:n=w.heap.size):IntAt (w.alloc (.cells #[.bool false,.slice none 0 0] 161)) n 0 0:=hn▸IntAt.new w
theorem below_row (W:World) (c:Array Value) (t:TypeId) (fr:Nat × Nat):Below W.heap.size W ((W.alloc (.cells c t fr)).drew):=((Below.refl _ _).alloc (Nat.le_refl _) _).drew
theorem qZ4 (W:World) (o:Obj):Below W.heap.size W (W.alloc o):=(Below.refl _ _).alloc (Nat.le_refl _) _
set_option maxRecDepth 100000 in
theorem number_any {w:World} (b:Bool) (s:ByteArray) (hs:s.size≤4294967296) :
  Calls Tryz.prog 129 #[.agg #[.bool b,.string s]] w fun e w'=>∃ g,e=.returned (.pointer (some ⟨g,0,none⟩))∧w.heap.size≤g∧IntAt w' g 0 (qJ6 b s)∧Below w.heap.size w w':=by
 have hcv:=fun (w:World)=>run_bytes_of_string (P:=Tryz.prog) w 9 306 5 s Tryz.underlying9 Tryz.underlying306 Tryz.underlying5
 have HS:=Lib.hid hs
 have HB:=Lib.hid (qZ4 w (.cells #[.bool b,.string s] 23))
 have HX:=Lib.hid (BoxAt.new w #[.bool b,.string s] 23)
 clear hs
 go_enter Tryz.func129,Tryz.ntmps129
 go_wp2_with fail
 generalize hW2:(w.alloc (.cells #[.bool b,.string s] 23)).alloc (.cells #[.bool false,.slice none 0 0] 161)=W2
 have hi:IntAt W2 (w.heap.size+1) 0 0:=by rw [← hW2]; exact IntAt.new_at (size_alloc _ _).symm
 have hx:BoxAt W2 w.heap.size #[.bool b,.string s] 23:=by rw [← hW2]; exact HX.out.on (qZ4 _ _)
 have hb:Below w.heap.size w W2:=by rw [← hW2]; exact HB.out.trans ((qZ4 _ _).mono (by simp))
 have hsz:w.heap.size+1+1=W2.heap.size:=by rw [← hW2]; simp
 have hby:=byt_row (W:=W2) s (grownCap W2 s.size 0 5) (grownCap W2 s.size 0 5) (w.heap.size+1+1) ((bytesRow s (grownCap W2 s.size 0 5)).size,(bytesRow s (grownCap W2 s.size 0 5)).size+1) hsz
 have hbl:=below_row W2 (bytesRow s (grownCap W2 s.size 0 5)) 5 ((bytesRow s (grownCap W2 s.size 0 5)).size,(bytesRow s (grownCap W2 s.size 0 5)).size+1)
 clear hW2
 generalize grownCap W2 s.size 0 5=c at hby hbl ⊢
 generalize (W2.alloc (.cells (bytesRow s c) 5 ((bytesRow s c).size,(bytesRow s c).size+1))).drew=W3 at hby hbl ⊢
 refine (SetBytes_any (hi.on hbl).slot hby HS.out).mono ?_
 rintro e w1 ⟨rfl,h1,h2⟩
 rw [List.reverse_reverse] at h1
 have HX1:=Lib.hid (hx.on hbl)
 have HB1:=Lib.hid (hb.trans (hbl.mono hb.size))
 have HI:=Lib.hid h1
 have HT:=Lib.hid (h2.below (B:=w.heap.size+1) (Nat.le_refl _) (by have:=hbl.size; omega))
 have hc0:w1.cell? ⟨w.heap.size,0,none⟩=some (.bool b):=by rw [HT.out.cell (by simp)]; exact HX1.out.cell 0 _ rfl
 have hc1:w1.cell? ⟨w.heap.size,1,none⟩=some (.string s):=by rw [HT.out.cell (by simp)]; exact HX1.out.cell 1 _ rfl
 have HBB:=Lib.hid (HB1.out.trans (HT.out.mono (by omega)))
 clear h1 h2 hi hx hb hsz hby hbl
 cases b
 · go_wp2
   go_ret
   refine ⟨_,rfl,by omega,?_,HBB.out⟩
   have:=HI.out
   simpa [qJ6,sg,num] using this
 · go_wp2_with fail
   refine (neg_any HI.out.slot HI.out).mono ?_
   rintro e w2 ⟨rfl,h1,h2⟩
   have H1:=Lib.hid h1
   have H2:=Lib.hid (HBB.out.trans (h2.below (by omega) HBB.out.size))
   clear h1 h2 hc0 hc1
   go_wp2
   go_ret
   refine ⟨_,rfl,by omega,?_,H2.out⟩
   have:=H1.out
   simpa [qJ6,sg,num] using this
set_option maxRecDepth 100000 in
theorem back_any {w:World} {b o:Nat} {n:Int} (hx:IntAt w b o n) (hn:Okn n) :
  Calls Tryz.prog 121 #[.pointer (some ⟨b,o,none⟩)] w fun e w'=>e=.returned (qZ9 n)∧Below w.heap.size w w':=by
 have HB:=Lib.hid (qZ4 w (.cells #[.bool false,.string ⟨#[]⟩] 23))
 have hx1:=hx.on HB.out
 have HX:=Lib.hid hx1
 have HN:=Lib.hid hn
 have HC:=Lib.hid (BoxAt.new w #[.bool false,.string ⟨#[]⟩] 23)
 obtain ⟨s,hs⟩:∃ s,s=decide (n<0):=⟨_,rfl⟩
 have hsg:decide (n.sign<0)=s:=by
  rw [hs]
  refine decide_eq_decide.2 ?_
  exact Int.sign_neg_iff
 have HSG:=Lib.hid hs
 clear hx hx1 hn hs
 go_enter Tryz.func121,Tryz.ntmps121
 go_wp2_with fail
 refine (sign_any HX.out).mono ?_
 rintro e w1 ⟨rfl,rfl⟩
 go_wp2_with fail
 refine (Bytes_any HX.out HN.out).mono ?_
 rintro e w2 ⟨v,rfl,hby,hb⟩
 obtain ⟨h,m,cap,rfl⟩:=hby.form
 have hcv:=zW5 hby
 have hc0:=(HC.out.on hb).cell 0 _ rfl
 have hc1:=(HC.out.on hb).cell 1 _ rfl
 have hf:=(HC.out.on hb).frozen
 have HK:=Lib.hid (((HC.out.on hb).set 0 (.bool (decide (n<0)))).set 1 (.string (strN (led n.natAbs).reverse)))
 have HB2:=Lib.hid (HB.out.trans (hb.mono HB.out.size))
 clear hby hb
 go_wp2
 have h0:=HK.out.cell 0 (.bool (decide (n<0))) rfl
 have h1:=HK.out.cell 1 (.string (strN (led n.natAbs).reverse)) rfl
 exact bodyPost_ret (v:=qZ9 n) (by simp [results,Tryz.results121,go_sem,h0,h1,qZ9,mag]) rfl ⟨rfl,(HB2.out.setCell (Nat.le_refl _) _).setCell (Nat.le_refl _) _⟩
def RatAt (w:World) (b o:Nat) (q:Rat):Prop :=
 Slot w b o 4∧IntAt w b o q.num∧∃ d:Int,IntAt w b (o+2) d∧(d=q.den∨d=0∧q.den=1)
theorem RatAt.slot {w:World} {b o:Nat} {q:Rat} (h:RatAt w b o q):Slot w b o 4:=h.1
theorem RatAt.lt {w:World} {b o:Nat} {q:Rat} (h:RatAt w b o q):b<w.heap.size:=h.1.lt
theorem RatAt.on {w w':World} {b o:Nat} {q:Rat} (h:RatAt w b o q) (k:Below w.heap.size w w'):RatAt w' b o q:=by
 obtain ⟨h1,h2,d,h3,h4⟩:=h
 exact ⟨h1.on k,h2.on k,d,h3.on k,h4⟩
theorem RatAt.new (w:World):RatAt (w.alloc (.cells #[.bool false,.slice none 0 0,.bool false,.slice none 0 0] 163)) w.heap.size 0 0:=by
 have hb:=heap_alloc_new w (.cells #[.bool false,.slice none 0 0,.bool false,.slice none 0 0] 163)
 refine ⟨⟨_,_,hb,by decide,by simp⟩,⟨⟨_,_,hb,by decide,by simp⟩,?_,.slice none 0 0,?_,?_⟩,0,⟨⟨_,_,hb,by decide,by simp⟩,?_,.slice none 0 0,?_,?_⟩,.inr ⟨rfl,rfl⟩⟩
 · rw [cell_of_row _ _ _ _ _ _ hb]; rfl
 · rw [cell_of_row _ _ _ _ _ _ hb]; rfl
 · rw [show (0:Rat).num=0 from rfl,Int.natAbs_zero,qJ4]; exact Words.nil _
 · rw [cell_of_row _ _ _ _ _ _ hb]; rfl
 · rw [cell_of_row _ _ _ _ _ _ hb]; rfl
 · rw [Int.natAbs_zero,qJ4]; exact Words.nil _
theorem setFrac_of (n m:Int) (h0:m≠0) (g:Int) (hg:g=if m<0 then -(Int.gcd n m:Int) else (Int.gcd n m:Int)):g≠0∧n.tdiv g=(Rat.divInt n m).num∧m.tdiv g=(Rat.divInt n m).den:=by
 have hgp:0<Int.gcd n m:=Int.gcd_pos_of_ne_zero_right _ h0
 obtain ⟨k,hk⟩:=Int.gcd_dvd_left n m
 obtain ⟨l,hl⟩:=Int.gcd_dvd_right n m
 rw [Rat.num_divInt,Rat.den_divInt,if_neg h0,Int.gcd_comm m n]
 generalize Int.gcd n m=c at *
 have hc:(c:Int)≠0:=by omega
 by_cases h:m<0
 · rw [if_pos h] at hg
   subst hg
   refine ⟨by omega,?_,?_⟩
   · rw [Int.sign_eq_neg_one_of_neg h,hk,Int.tdiv_neg,Int.mul_tdiv_cancel_left _ hc,Int.neg_mul,Int.one_mul,← Int.mul_neg,Int.mul_ediv_cancel_left _ hc]
   · rw [hl,Int.tdiv_neg,Int.mul_tdiv_cancel_left _ hc,Int.natAbs_mul,Int.natAbs_natCast,Nat.mul_div_cancel_left _ hgp]
     have:l<0:=by
      rcases Int.lt_or_le l 0 with h1 | h1
      · exact h1
      · have:=Int.mul_nonneg (Int.natCast_nonneg c) h1; omega
     omega
 · rw [if_neg h] at hg
   subst hg
   refine ⟨hc,?_,?_⟩
   · rw [Int.sign_eq_one_of_pos (by omega),hk,Int.mul_tdiv_cancel_left _ hc,Int.one_mul,Int.mul_ediv_cancel_left _ hc]
   · rw [hl,Int.mul_tdiv_cancel_left _ hc,Int.natAbs_mul,Int.natAbs_natCast,Nat.mul_div_cancel_left _ hgp]
     have:0≤l:=by
      rcases Int.lt_or_le l 0 with h1 | h1
      · have:=Int.mul_neg_of_pos_of_neg (show 0<(c:Int) by omega) h1; omega
      · exact h1
     omega
theorem zQ3 {w:World} {b o:Nat} {q:Rat} (hx:RatAt w b o q) :
  Calls Tryz.prog 268 #[.pointer (some ⟨b,o,none⟩)] w fun e w'=>∃ g i,e=.returned (.pointer (some ⟨g,i,none⟩))∧IntAt w' g i q.den∧Below w.heap.size w w'∧(g=b∨w.heap.size≤g):=by
 obtain ⟨hs,hn,d,hd,hq⟩:=hx
 obtain ⟨A,la,ca,hd0,hd1,hdv,hlt⟩:=hd.open_
 have hl:=hdv.len.1
 have hb:=hdv.2.1
 have HD:=Lib.hid hd
 have HQ:=Lib.hid hq
 clear hs hn hdv hd0 hd
 by_cases h0:d=0
 · subst h0
   rw [Int.natAbs_zero,qJ4] at hl
   obtain rfl:la=0:=hl
   have hq1:((q.den:Nat):Int)=1:=by have:=q.den_pos; omega
   rw [hq1]
   clear hb hq hq1
   go_enter Tryz.func268,Tryz.ntmps268
   go_wp2_with fail
   refine (NewInt_any (by omega)).mono ?_
   rintro e w1 ⟨b1,rfl,h0,h1,h2⟩
   have H0:=Lib.hid h0
   have H1:=Lib.hid h1
   have H2:=Lib.hid h2
   clear h1 h2 h0
   go_wp2
   go_ret
   exact ⟨_,_,rfl,H1.out,H2.out,.inr H0.out⟩
 · have hl0:0<la:=by
    rcases Nat.eq_zero_or_pos la with h | h
    · rw [h] at hl
      have:=(qX4 d.natAbs).1 (List.eq_nil_of_length_eq_zero hl.symm)
      omega
    · exact h
   have hlb:la≤17179869184:=by omega
   have hq1:d=q.den:=by omega
   have H1:Hid (IntAt w b (o+2) q.den):=by rw [← hq1]; exact HD.out
   have hne:((la:Int)==0)=false:=by rw [beq_eq_false_iff_ne]; omega
   clear hl hb hq hq1 HQ HD h0
   go_enter Tryz.func268,Tryz.ntmps268
   go_wp2
   go_ret
   exact ⟨_,_,rfl,H1.out,Below.refl _ _,.inl rfl⟩
theorem ratAt_set {w:World} {b o:Nat} {q:Rat} {s1 s2:Bool} {v1 v2:Value} (hs:Slot w b o 4) (h1:Words w v1 (dig q.num.natAbs)) (h2:Words w v2 (dig (q.den:Int).natAbs)) (e1:decide (q.num<0)=s1) (e2:decide ((q.den:Int)<0)=s2) :
  RatAt ((((w.setCell ⟨b,o,none⟩ (.bool s1)).setCell ⟨b,o+1,none⟩ v1).setCell ⟨b,o+2,none⟩ (.bool s2)).setCell ⟨b,o+2+1,none⟩ v2) b o q ∧
  Touch w ((((w.setCell ⟨b,o,none⟩ (.bool s1)).setCell ⟨b,o+1,none⟩ v1).setCell ⟨b,o+2,none⟩ (.bool s2)).setCell ⟨b,o+2+1,none⟩ v2) b o 4:=by
 have ht:Touch w ((((w.setCell ⟨b,o,none⟩ (.bool s1)).setCell ⟨b,o+1,none⟩ v1).setCell ⟨b,o+2,none⟩ (.bool s2)).setCell ⟨b,o+2+1,none⟩ v2) b o 4 :=
  ((((Touch.refl w b o 4).set_ o (by omega) _).set_ (o+1) (by omega) _).set_ (o+2) (by omega) _).set_ (o+2+1) (by omega) _
 obtain ⟨cs,t,k1,k2,k3⟩:=id hs
 have hb:((((w.setCell ⟨b,o,none⟩ (.bool s1)).setCell ⟨b,o+1,none⟩ v1).setCell ⟨b,o+2,none⟩ (.bool s2)).setCell ⟨b,o+2+1,none⟩ v2).heap[b]?=some (.cells ((((cs.setIfInBounds o (.bool s1)).setIfInBounds (o+1) v1).setIfInBounds (o+2) (.bool s2)).setIfInBounds (o+2+1) v2) t (0,0)):=by
  simp [World.setCell,Array.getElem?_modify,k1]
 have hsl:=hs.touch ht
 have hw1:=h1.touch hs ht
 have hw2:=h2.touch hs ht
 refine ⟨⟨hsl,⟨hsl.part (by omega),?_,v1,?_,hw1⟩,q.den,⟨hsl.part (by omega),?_,v2,?_,hw2⟩,.inl rfl⟩,ht⟩
 · rw [cell_of_row _ _ _ _ _ _ hb,Array.getElem?_setIfInBounds_ne (by omega),Array.getElem?_setIfInBounds_ne (by omega),Array.getElem?_setIfInBounds_ne (by omega),Array.getElem?_setIfInBounds_self_of_lt (by omega),e1]
 · rw [cell_of_row _ _ _ _ _ _ hb,Array.getElem?_setIfInBounds_ne (by omega),Array.getElem?_setIfInBounds_ne (by omega),Array.getElem?_setIfInBounds_self_of_lt (by simp; omega)]
 · rw [cell_of_row _ _ _ _ _ _ hb,Array.getElem?_setIfInBounds_ne (by omega),Array.getElem?_setIfInBounds_self_of_lt (by simp; omega),e2]
 · rw [cell_of_row _ _ _ _ _ _ hb,Array.getElem?_setIfInBounds_self_of_lt (by simp; omega)]
set_option maxHeartbeats 1600000 in
theorem qY5 {w:World} {b o c p d q:Nat} {n m:Int} (hz:Slot w b o 4) (hx:IntAt w c p n) (hy:IntAt w d q m) (h0:m≠0) (hn:Okn n) (hm:Okn m) :
  Calls Tryz.prog 246 #[.pointer (some ⟨b,o,none⟩),.pointer (some ⟨c,p,none⟩),.pointer (some ⟨d,q,none⟩)] w fun e w'=>e=.returned (.pointer (some ⟨b,o,none⟩))∧RatAt w' b o (Rat.divInt n m)∧Touch w w' b o 4:=by
 have HX:=Lib.hid hx
 have HY:=Lib.hid hy
 have HZ:=Lib.hid hz
 have HN:=Lib.hid hn
 have HM:=Lib.hid hm
 have H0:=Lib.hid h0
 clear hx hy hz hn hm h0
 go_enter Tryz.func246,Tryz.ntmps246
 go_wp2_with fail
 have ha:Below w.heap.size w (w.alloc (.cells #[.bool false,.slice none 0 0] 161)):=(Below.refl _ _).alloc (Nat.le_refl _) _
 refine (gcd_any (IntAt.new w).slot (HX.out.on ha) (HY.out.on ha) HN.out HM.out).mono ?_
 rintro e w1 ⟨rfl,h1,h2⟩
 have hb1:=ha.trans (h2.below (Nat.le_refl _) ha.size)
 have HX1:=Lib.hid (HX.out.on hb1)
 have HY1:=Lib.hid (HY.out.on hb1)
 have HZ1:=Lib.hid (HZ.out.on hb1)
 have HB1:=Lib.hid hb1
 have HG1:=Lib.hid h1
 have HBZ:Hid (w.heap.size≠b):=by have:=HZ.out.lt; unfold Hid; omega
 obtain ⟨B,lb,cb,hd0,_,_,hlt⟩:=HY1.out.open_
 have HGZ:Hid (Slot w1 w.heap.size 0 2):=h1.slot
 obtain ⟨G,hG⟩:∃ G:Int,G=if m<0 then -(Int.gcd n m:Int) else (Int.gcd n m:Int):=⟨_,rfl⟩
 obtain ⟨hg0,hgn,hgd⟩:=setFrac_of n m H0.out G hG
 have HG0:=Lib.hid hg0
 have HGN:=Lib.hid hgn
 have HGD:=Lib.hid hgd
 have HGV:=Lib.hid hG
 clear h1 h2 ha hb1 hg0 hgn hgd hG
 go_upto_if 17 with (fail)
 go_cut [] from 17 to 20 (fun wc=>Hid (IntAt wc w.heap.size 0 G)∧Hid (Below w.heap.size w wc))
 case first =>
  by_cases k:m<0
  · have kd:decide (m<0)=true:=by simpa using k
    rw [kd] at hd0
    have HE:Hid (-(Int.gcd n m:Int)=G):=by have:=HGV.out; rw [if_pos k] at this; exact this.symm
    go_wp2_with fail
    refine (neg_any HGZ.out HG1.out).mono ?_
    rintro e w2 ⟨rfl,h1,h2⟩
    rw [HE.out] at h1
    have H1:=Lib.hid h1
    have HB2:=Lib.hid (HB1.out.trans (h2.below (Nat.le_refl _) HB1.out.size))
    clear h1 h2
    go_wp2_with fail
    go_meet
    exact ⟨H1.out,HB2.out⟩
  · have kd:decide (m<0)=false:=by simpa using k
    rw [kd] at hd0
    have HE:Hid ((Int.gcd n m:Int)=G):=by have:=HGV.out; rw [if_neg k] at this; exact this.symm
    have H1:Hid (IntAt w1 w.heap.size 0 G):=by rw [← HE.out]; exact HG1.out
    go_wp2_with fail
    go_meet
    exact ⟨H1.out,HB1.out⟩
 case rest =>
  obtain ⟨HGG,HBB⟩:=hcut
  have ha:Below wc.heap.size wc (wc.alloc (.cells #[.bool false,.slice none 0 0] 161)):=(Below.refl _ _).alloc (Nat.le_refl _) _
  go_wp2_with fail
  refine (Quo_any (IntAt.new wc).slot ((HX.out.on HBB.out).on ha) (HGG.out.on ha) HG0.out HN.out).mono ?_
  rintro e w3 ⟨rfl,h1,h2⟩
  rw [HGN.out] at h1
  have hb3:=ha.trans (h2.below (Nat.le_refl _) ha.size)
  have HB3:=Lib.hid hb3
  have HN3:=Lib.hid h1
  clear h1 h2 ha hb3
  have ha:Below w3.heap.size w3 (w3.alloc (.cells #[.bool false,.slice none 0 0] 161)):=(Below.refl _ _).alloc (Nat.le_refl _) _
  go_wp2_with fail
  refine (Quo_any (IntAt.new w3).slot (((HY.out.on HBB.out).on HB3.out).on ha) ((HGG.out.on HB3.out).on ha) HG0.out HM.out).mono ?_
  rintro e w4 ⟨rfl,h1,h2⟩
  rw [HGD.out] at h1
  have hb4:=ha.trans (h2.below (Nat.le_refl _) ha.size)
  have HN4:=Lib.hid (HN3.out.on hb4)
  have HD4:=Lib.hid h1
  have HZ4:Hid (Slot w4 b o 4):=((HZ.out.on HBB.out).on HB3.out).on hb4
  have HB4:Hid (Below w.heap.size w w4):=HBB.out.trans ((HB3.out.mono HBB.out.size).trans (hb4.mono (Nat.le_trans HBB.out.size HB3.out.size)))
  have HNE:Hid (wc.heap.size≠b∧w3.heap.size≠b):=by
   have h3:=HZ.out.lt
   have h4:=HBB.out.size
   have h5:=HB3.out.size
   constructor<;>omega
  clear h1 h2 ha hb4 HN3 HX1 HY1 HZ1 HB1 HG1 HGZ HGG HX HY HZ hd0 hlt
  revert HNE HN4 HD4
  clear HBB HB3
  generalize wc.heap.size=g1
  generalize w3.heap.size=g2
  intro HN4 HD4 HNE
  obtain ⟨A1,l1,c1,hn0,hn1,hnv,hnl⟩:=HN4.out.open_
  obtain ⟨A2,l2,c2,hd0,hd1,hdv,hdl⟩:=HD4.out.open_
  have HW1:=Lib.hid hnv
  have HW2:=Lib.hid hdv
  clear hnv hdv
  rw [Nat.zero_add] at hn1 hd1
  generalize hs1:decide ((Rat.divInt n m).num<0)=s1 at hn0
  generalize hs2:decide (((Rat.divInt n m).den:Int)<0)=s2 at hd0
  have HS1:=Lib.hid hs1
  have HS2:=Lib.hid hs2
  clear hs1 hs2
  obtain ⟨v0,hv0⟩:=HZ4.out.cell o (by omega)
  obtain ⟨v1,hv1⟩:=HZ4.out.cell (o+1) (by omega)
  obtain ⟨v2,hv2⟩:=HZ4.out.cell (o+2) (by omega)
  obtain ⟨v3,hv3⟩:=HZ4.out.cell (o+2+1) (by omega)
  have hf:∀ i,w4.frozen? ⟨b,i,none⟩=false:=fun i=>HZ4.out.frozen i
  have hg1:=HNE.out.1
  have hg2:=HNE.out.2
  go_wp2
  go_region
  obtain ⟨hr,ht⟩:=ratAt_set HZ4.out HW1.out HW2.out HS1.out HS2.out
  have HRA:=Lib.hid hr
  have HTO:=Lib.hid ht
  clear hr ht
  go_wp2
  go_ret
  exact ⟨rfl,HRA.out.on (Below.refl _ _).drew,(((Touch.of_below HB4.out b o 4).trans HTO.out)).drew⟩
def blk (v:Value):Option Nat:=match v with
 | .pointer (some a)=>some a.block
 | _=>none
structure GC (base:Nat) (w0:World) (ow:List Nat) (γ:Gh) (w:World):Prop where
 below:Below base w0 w
 size:base≤w.heap.size
 lt:∀ i∈ow,∀ v g,γ i=some v→blk v=some g→g<w.heap.size
 apart:∀ i∈ow,∀ j∈ow,i≠j→∀ v u g,γ i=some v→γ j=some u→blk v=some g→blk u=some g→g<base
structure GE (base:Nat) (wr:List (Nat × Nat)) (γ:Gh) (w w':World):Prop where
 int:∀ g o n,IntAt w g o n→(∃ p∈wr,∃ v,γ p.1=some v∧blk v=some g∧γ p.2=none∧base≤g)∨IntAt w' g o n
 slot:∀ g o n,Slot w g o n→Slot w' g o n
theorem GC.start {base:Nat} {w0:World} (ow:List Nat) (hb:base≤w0.heap.size):GC base w0 ow gh0 w0.drew :=
 ⟨(Below.refl _ _).drew,hb,(fun _ _ _ _ h=>nomatch h),(fun _ _ _ _ _ _ _ _ h=>nomatch h)⟩
theorem upd_some {γ:Gh} {k i:Nat} {x v:Value} (h:γ i=some v) (hk:γ k=none):γ.upd k x i=some v:=by
 rw [Gh.upd_ne γ x (fun e=>by rw [e,hk] at h; cases h)]
 exact h
theorem GC.step {base:Nat} {w0 w w':World} {ow:List Nat} {γ:Gh} (h:GC base w0 ow γ w) (k:Nat) (x:Value) (hk:ow.contains k=false) (hb:Below base w w'):GC base w0 ow (γ.upd k x) w':=by
 have hne:∀ i∈ow,i≠k:=fun i hi e=>by subst e; rw [List.contains_iff_mem.2 hi] at hk; cases hk
 refine ⟨h.below.trans hb,Nat.le_trans h.size hb.size,fun i hi v g h1 h2=>?_,fun i hi j hj hij v u g h1 h2=>?_⟩
 · rw [Gh.upd_ne γ x (hne i hi)] at h1
   exact Nat.lt_of_lt_of_le (h.lt i hi v g h1 h2) hb.size
 · rw [Gh.upd_ne γ x (hne i hi)] at h1
   rw [Gh.upd_ne γ x (hne j hj)] at h2
   exact h.apart i hi j hj hij v u g h1 h2
theorem GC.own {base:Nat} {w0 w w':World} {ow:List Nat} {γ:Gh} (h:GC base w0 ow γ w) (k:Nat) (g o:Nat) (hb:Below w.heap.size w w') (hg:g<w'.heap.size) (hn:g<base∨w.heap.size≤g) :
  GC base w0 ow (γ.upd k (.pointer (some ⟨g,o,none⟩))) w':=by
 refine ⟨h.below.trans (hb.mono h.size),Nat.le_trans h.size hb.size,fun i hi v j h1 h2=>?_,fun i hi j hj hij v u c h1 h2 h3 h4=>?_⟩
 · by_cases e:i=k
   · subst e
     rw [Gh.upd_self] at h1
     cases h1
     cases h2
     exact hg
   · rw [Gh.upd_ne γ _ e] at h1
     exact Nat.lt_of_lt_of_le (h.lt i hi v j h1 h2) hb.size
 · by_cases e:i=k
   · subst e
     rw [Gh.upd_self] at h1
     rw [Gh.upd_ne γ _ (Ne.symm hij)] at h2
     cases h1
     cases h3
     have:=h.lt j hj u _ h2 h4
     simp only at this ⊢
     omega
   · rw [Gh.upd_ne γ _ e] at h1
     by_cases e2:j=k
     · subst e2
       rw [Gh.upd_self] at h2
       cases h2
       cases h4
       have:=h.lt i hi v _ h1 h3
       simp only at this ⊢
       omega
     · rw [Gh.upd_ne γ _ e2] at h2
       exact h.apart i hi j hj hij v u c h1 h2 h3 h4
theorem GE.below {base:Nat} {w w':World} (wr:List (Nat × Nat)) (γ:Gh) (h:Below w.heap.size w w'):GE base wr γ w w' :=
 ⟨fun _ _ _ k=>.inr (k.on h),fun _ _ _ k=>k.on h⟩
theorem GE.refl (base:Nat) (w:World) (wr:List (Nat × Nat)) (γ:Gh):GE base wr γ w w:=GE.below wr γ (Below.refl _ _)
theorem GE.write {base:Nat} {w w':World} {wr:List (Nat × Nat)} {γ:Gh} {g n:Nat} (a k:Nat) (hp:wr.contains (a,k)=true) (hs:Slot w g 0 n) (ht:Touch w w' g 0 n) (ha:γ a=some (.pointer (some ⟨g,0,none⟩))) (hk:γ k=none) (hb:base≤g):GE base wr γ w w':=by
 refine ⟨fun c o x hx=>?_,fun _ _ _ k=>k.touch ht⟩
 by_cases e:c=g
 · subst e
   exact .inl ⟨(a,k),List.contains_iff_mem.1 hp,_,ha,rfl,hk,hb⟩
 · exact .inr (hx.touch hs ht (.inl e))
def VA (base:Nat) (w:World) (v:Value):Prop:=∃ g,v=.pointer (some ⟨g,0,none⟩)∧base≤g∧Slot w g 0 2
def VD (n:Int) (w:World) (v:Value):Prop:=∃ g i,v=.pointer (some ⟨g,i,none⟩)∧IntAt w g i n
def VM (base a:Nat) (n:Int) (γ:Gh) (w:World) (v:Value):Prop:=∃ g,v=.pointer (some ⟨g,0,none⟩)∧γ a=some (.pointer (some ⟨g,0,none⟩))∧base≤g∧IntAt w g 0 n
theorem VA.stable {base:Nat} {wr:List (Nat × Nat)} {γ:Gh} {w w':World} {v:Value} (h:VA base w v) (hE:GE base wr γ w w'):VA base w' v:=by
 obtain ⟨g,h1,h2,h3⟩:=h
 exact ⟨g,h1,h2,hE.slot _ _ _ h3⟩
theorem VD.stable {base:Nat} {w0:World} {ow:List Nat} {wr:List (Nat × Nat)} {γ:Gh} {w w':World} {v:Value} {n:Int} (i:Nat) (h:VD n w v) (hC:GC base w0 ow γ w) (hE:GE base wr γ w w') (hi:γ i=some v) (hb:(ow.contains i&&wr.all fun p=>ow.contains p.1&&p.1 != i)=true):VD n w' v:=by
 obtain ⟨g,o,rfl,h2⟩:=h
 rw [Bool.and_eq_true] at hb
 rcases hE.int _ _ _ h2 with ⟨p,hp,u,k1,k2,_,k4⟩ | k
 · have h3:=List.all_eq_true.1 hb.2 p hp
   rw [Bool.and_eq_true,bne_iff_ne] at h3
   have:=hC.apart i (List.contains_iff_mem.1 hb.1) p.1 (List.contains_iff_mem.1 h3.1) (Ne.symm h3.2) _ _ g hi k1 rfl k2
   omega
 · exact ⟨g,o,rfl,k⟩
theorem VM.stable {base a:Nat} {w0:World} {ow:List Nat} {wr:List (Nat × Nat)} {γ:Gh} {w w':World} {v x:Value} {n:Int} (i k:Nat) (h:VM base a n γ w v) (hC:GC base w0 ow γ w) (hE:GE base wr γ w w') (hk:γ k=none) (hi:γ i=some v) (hb:(ow.contains a&&wr.all fun p=>ow.contains p.1&&(p.1 != a||p.2==i))=true):VM base a n (γ.upd k x) w' v:=by
 obtain ⟨g,rfl,h1,h2,h3⟩:=h
 rw [Bool.and_eq_true] at hb
 rcases hE.int _ _ _ h3 with ⟨p,hp,u,k1,k2,k3,k4⟩ | k5
 · have h4:=List.all_eq_true.1 hb.2 p hp
   rw [Bool.and_eq_true,Bool.or_eq_true,bne_iff_ne,beq_iff_eq] at h4
   by_cases e:p.1=a
   · have:p.2=i:=by rcases h4.2 with h5 | h5; exact absurd e h5; exact h5
     rw [this,hi] at k3
     cases k3
   · have:=hC.apart a (List.contains_iff_mem.1 hb.1) p.1 (List.contains_iff_mem.1 h4.1) (Ne.symm e) _ _ g h1 k1 rfl k2
     omega
 · exact ⟨g,rfl,upd_some h1 hk,h2,k5⟩
def wl (n:Int):Nat:=(dig n.natAbs).length
theorem wl_mul (n m:Int):wl (n*m)≤wl n+wl m:=by
 unfold wl
 refine qX8 _ _ ?_
 rw [Int.natAbs_mul,Nat.pow_add]
 exact Nat.mul_lt_mul'' (qV3 _) (qV3 _)
theorem wl_add (n m:Int):wl (n+m)≤max (wl n) (wl m)+1:=by
 unfold wl
 refine qX8 _ _ ?_
 have h1:=qV3 n.natAbs
 have h2:=qV3 m.natAbs
 have h3:4294967296^(dig n.natAbs).length≤4294967296^(max (dig n.natAbs).length (dig m.natAbs).length):=Nat.pow_le_pow_right (by decide) (Nat.le_max_left _ _)
 have h4:4294967296^(dig m.natAbs).length≤4294967296^(max (dig n.natAbs).length (dig m.natAbs).length):=Nat.pow_le_pow_right (by decide) (Nat.le_max_right _ _)
 have h5:=Int.natAbs_add_le n m
 rw [Nat.pow_succ]
 generalize 4294967296^(max (dig n.natAbs).length (dig m.natAbs).length)=M at *
 omega
theorem wl_neg (n:Int):wl (-n)=wl n:=by simp [wl]
theorem wl_sub (n m:Int):wl (n-m)≤max (wl n) (wl m)+1:=by
 have:=wl_add n (-m)
 rw [wl_neg] at this
 rwa [Int.sub_eq_add_neg]
def OkR (q:Rat):Prop:=wl q.num≤1073741824∧wl q.den≤1073741824
theorem OkR.num {q:Rat} (h:OkR q):Okn q.num:=Nat.le_trans h.1 (by decide)
theorem OkR.den {q:Rat} (h:OkR q):Okn q.den:=Nat.le_trans h.2 (by decide)
theorem okn_mul {n m:Int} (h:wl n≤1073741824) (k:wl m≤1073741824):Okn (n*m):=by
 have:=wl_mul n m
 show wl _≤_
 omega
theorem okn_add {n m a b:Int} (h:wl n≤1073741824) (k:wl m≤1073741824) (h':wl a≤1073741824) (k':wl b≤1073741824):Okn (n*m+a*b):=by
 have h1:=wl_mul n m
 have h2:=wl_mul a b
 have h3:=wl_add (n*m) (a*b)
 show wl _≤_
 omega
theorem okn_sub {n m a b:Int} (h:wl n≤1073741824) (k:wl m≤1073741824) (h':wl a≤1073741824) (k':wl b≤1073741824):Okn (n*m-a*b):=by
 have h1:=wl_mul n m
 have h2:=wl_mul a b
 have h3:=wl_sub (n*m) (a*b)
 show wl _≤_
 omega
theorem RatAt.num {w:World} {b o:Nat} {q:Rat} (h:RatAt w b o q):IntAt w b o q.num:=h.2.1
theorem qH9 (x:Rat):(x.den:Int)≠0:=by have:=x.den_pos; omega
theorem divInt_mul (x y:Rat):Rat.divInt (x.num*y.num) ((x.den:Int)*y.den)=x*y:=by
 rw [← Rat.divInt_mul_divInt,Rat.num_divInt_den,Rat.num_divInt_den]
set_option maxHeartbeats 1600000 in
set_option maxRecDepth 100000 in
theorem rMul_any {w:World} {b o c p d q:Nat} {x y:Rat} (hz:Slot w b o 4) (hx:RatAt w c p x) (hy:RatAt w d q y) (kx:OkR x) (ky:OkR y) :
  Calls Tryz.prog 321 #[.pointer (some ⟨b,o,none⟩),.pointer (some ⟨c,p,none⟩),.pointer (some ⟨d,q,none⟩)] w fun e w'=>e=.returned (.pointer (some ⟨b,o,none⟩))∧RatAt w' b o (x*y)∧Touch w w' b o 4:=by
 have HX:=Lib.hid hx
 have HY:=Lib.hid hy
 have HZ:=Lib.hid hz
 have KX:=Lib.hid kx
 have KY:=Lib.hid ky
 clear hx hy hz kx ky
 go_enter Tryz.func321,Tryz.ntmps321
 go_wp2
 refine qK3 15 (GC w.heap.size w [1,9,11,13]) (fun γ wq _ wr=>GE w.heap.size [(1,8),(9,14)] γ wq wr) (fun i γ wq v=>match i with
   | 0=>v=.pointer (some ⟨b,o,none⟩)
   | 1=>VA w.heap.size wq v
   | 2=>v=.pointer (some ⟨c,p,none⟩)
   | 3=>v=.pointer (some ⟨c,p,none⟩)
   | 4=>v=.pointer (some ⟨c,p,none⟩)
   | 5=>v=.pointer (some ⟨d,q,none⟩)
   | 6=>v=.pointer (some ⟨d,q,none⟩)
   | 7=>v=.pointer (some ⟨d,q,none⟩)
   | 8=>VM w.heap.size 1 (x.num*y.num) γ wq v
   | 9=>VA w.heap.size wq v
   | 10=>v=.pointer (some ⟨c,p,none⟩)
   | 11=>VD ((x).den:Int) wq v
   | 12=>v=.pointer (some ⟨d,q,none⟩)
   | 13=>VD ((y).den:Int) wq v
   | 14=>VM w.heap.size 9 ((x.den:Int)*y.den) γ wq v
   | _=>True) (by kernel_rfl) (by kernel_rfl) (by kernel_rfl) (GC.start _ (Nat.le_refl _)) ?_ ⟨?_,?_,?_,?_,?_,?_,?_,?_,?_,?_,?_,?_,?_,?_,?_,trivial⟩ ?_
 · intro i γ w1 k xq w2 v hC hC2 hE hk hi hV
   match i with
   | 0=>exact hV
   | 1=>exact VA.stable hV hE
   | 2=>exact hV
   | 3=>exact hV
   | 4=>exact hV
   | 5=>exact hV
   | 6=>exact hV
   | 7=>exact hV
   | 8=>exact VM.stable 8 k hV hC hE hk hi rfl
   | 9=>exact VA.stable hV hE
   | 10=>exact hV
   | 11=>exact VD.stable 11 hV hC hE hi rfl
   | 12=>exact hV
   | 13=>exact VD.stable 13 hV hC hE hi rfl
   | 14=>exact VM.stable 14 k hV hC hE hk hi rfl
   | _+15=>trivial
 · intro a' γ w' hag hC hk hd K hK
   have e0:a'.tmps.getD 0 undef=.pointer (some ⟨b,o,none⟩):=hag 0 rfl
   go_step
   exact hK _ _ (hC.step 0 _ rfl (Below.refl _ _)) (GE.refl _ _ _ _) rfl
 · intro a' γ w' hag hC hk hd K hK
   have hb:Below w'.heap.size w' (w'.alloc (.cells #[.bool false,.slice none 0 0] 161)):=(Below.refl _ _).alloc (Nat.le_refl _) _
   have HK:=Lib.hid (hK (.pointer (some ⟨w'.heap.size,0,none⟩)) _ (hC.own 1 _ _ hb (IntAt.new w').lt (.inr (Nat.le_refl _))) (GE.below _ _ hb) ⟨_,rfl,hC.size,(IntAt.new w').slot⟩)
   clear hb hK hC
   go_step
   exact HK.out
 · intro a' γ w' hag hC hk hd K hK
   have e1:a'.tmps.getD 1 undef=.pointer (some ⟨c,p,none⟩):=hag 1 rfl
   go_step
   exact hK _ _ (hC.step 2 _ rfl (Below.refl _ _)) (GE.refl _ _ _ _) rfl
 · intro a' γ w' hag hC hk hd K hK
   have e9:a'.tmps.getD 9 undef=.pointer (some ⟨c,p,none⟩):=hd.1.2
   go_step
   exact hK _ _ (hC.step 3 _ rfl (Below.refl _ _)) (GE.refl _ _ _ _) rfl
 · intro a' γ w' hag hC hk hd K hK
   have e10:a'.tmps.getD 10 undef=.pointer (some ⟨c,p,none⟩):=hd.1.2
   go_step
   exact hK _ _ (hC.step 4 _ rfl (Below.refl _ _)) (GE.refl _ _ _ _) rfl
 · intro a' γ w' hag hC hk hd K hK
   have e2:a'.tmps.getD 2 undef=.pointer (some ⟨d,q,none⟩):=hag 2 rfl
   go_step
   exact hK _ _ (hC.step 5 _ rfl (Below.refl _ _)) (GE.refl _ _ _ _) rfl
 · intro a' γ w' hag hC hk hd K hK
   have e12:a'.tmps.getD 12 undef=.pointer (some ⟨d,q,none⟩):=hd.1.2
   go_step
   exact hK _ _ (hC.step 6 _ rfl (Below.refl _ _)) (GE.refl _ _ _ _) rfl
 · intro a' γ w' hag hC hk hd K hK
   have e13:a'.tmps.getD 13 undef=.pointer (some ⟨d,q,none⟩):=hd.1.2
   go_step
   exact hK _ _ (hC.step 7 _ rfl (Below.refl _ _)) (GE.refl _ _ _ _) rfl
 · intro a' γ w' hag hC hk hd K hK
   have q8:VA w.heap.size w' (a'.tmps.getD 8 undef):=hd.1.2
   have gg8:γ 1=some (a'.tmps.getD 8 undef):=hd.1.1
   obtain ⟨g8,e8,hb8,hs8⟩:=q8
   rw [e8] at gg8
   have e8:a'.tmps.getD 8 undef=.pointer (some ⟨g8,0,none⟩):=e8
   have e11:a'.tmps.getD 11 undef=.pointer (some ⟨c,p,none⟩):=hd.2.1.2
   have e14:a'.tmps.getD 14 undef=.pointer (some ⟨d,q,none⟩):=hd.2.2.1.2
   have hx:=Lib.hid (mul_any hs8 (HX.out.on hC.below).num (HY.out.on hC.below).num KX.out.num KY.out.num)
   go_step
   refine hx.out.mono ?_
   rintro e w2 ⟨rfl,h1,h2⟩
   exact hK _ _ (hC.step 8 _ rfl (h2.below hb8 hC.size)) (GE.write 1 8 rfl hs8 h2 gg8 hk hb8) ⟨_,rfl,upd_some gg8 hk,hb8,h1⟩
 · intro a' γ w' hag hC hk hd K hK
   have hb:Below w'.heap.size w' (w'.alloc (.cells #[.bool false,.slice none 0 0] 161)):=(Below.refl _ _).alloc (Nat.le_refl _) _
   have HK:=Lib.hid (hK (.pointer (some ⟨w'.heap.size,0,none⟩)) _ (hC.own 9 _ _ hb (IntAt.new w').lt (.inr (Nat.le_refl _))) (GE.below _ _ hb) ⟨_,rfl,hC.size,(IntAt.new w').slot⟩)
   clear hb hK hC
   go_step
   exact HK.out
 · intro a' γ w' hag hC hk hd K hK
   have e1:a'.tmps.getD 1 undef=.pointer (some ⟨c,p,none⟩):=hag 1 rfl
   go_step
   exact hK _ _ (hC.step 10 _ rfl (Below.refl _ _)) (GE.refl _ _ _ _) rfl
 · intro a' γ w' hag hC hk hd K hK
   have e17:a'.tmps.getD 17 undef=.pointer (some ⟨c,p,none⟩):=hd.1.2
   have hx:=HX.out.on hC.below
   go_step
   refine (zQ3 hx).mono ?_
   rintro e w2 ⟨g,j,rfl,h1,h2,h3⟩
   exact hK _ _ (hC.own 11 _ _ h2 h1.lt (h3.imp (fun e=>by rw [e]; exact HX.out.lt) id)) (GE.below _ _ h2) ⟨_,_,rfl,h1⟩
 · intro a' γ w' hag hC hk hd K hK
   have e2:a'.tmps.getD 2 undef=.pointer (some ⟨d,q,none⟩):=hag 2 rfl
   go_step
   exact hK _ _ (hC.step 12 _ rfl (Below.refl _ _)) (GE.refl _ _ _ _) rfl
 · intro a' γ w' hag hC hk hd K hK
   have e19:a'.tmps.getD 19 undef=.pointer (some ⟨d,q,none⟩):=hd.1.2
   have hx:=HY.out.on hC.below
   go_step
   refine (zQ3 hx).mono ?_
   rintro e w2 ⟨g,j,rfl,h1,h2,h3⟩
   exact hK _ _ (hC.own 13 _ _ h2 h1.lt (h3.imp (fun e=>by rw [e]; exact HY.out.lt) id)) (GE.below _ _ h2) ⟨_,_,rfl,h1⟩
 · intro a' γ w' hag hC hk hd K hK
   have q16:VA w.heap.size w' (a'.tmps.getD 16 undef):=hd.1.2
   have gg16:γ 9=some (a'.tmps.getD 16 undef):=hd.1.1
   obtain ⟨g16,e16,hb16,hs16⟩:=q16
   rw [e16] at gg16
   have e16:a'.tmps.getD 16 undef=.pointer (some ⟨g16,0,none⟩):=e16
   have q18:VD ((x).den:Int) w' (a'.tmps.getD 18 undef):=hd.2.1.2
   have gg18:γ 11=some (a'.tmps.getD 18 undef):=hd.2.1.1
   obtain ⟨g18,i18,e18,h18⟩:=q18
   rw [e18] at gg18
   have e18:a'.tmps.getD 18 undef=.pointer (some ⟨g18,i18,none⟩):=e18
   have q20:VD ((y).den:Int) w' (a'.tmps.getD 20 undef):=hd.2.2.1.2
   have gg20:γ 13=some (a'.tmps.getD 20 undef):=hd.2.2.1.1
   obtain ⟨g20,i20,e20,h20⟩:=q20
   rw [e20] at gg20
   have e20:a'.tmps.getD 20 undef=.pointer (some ⟨g20,i20,none⟩):=e20
   have hx:=Lib.hid (mul_any hs16 h18 h20 KX.out.den KY.out.den)
   go_step
   refine hx.out.mono ?_
   rintro e w2 ⟨rfl,h1,h2⟩
   exact hK _ _ (hC.step 14 _ rfl (h2.below hb16 hC.size)) (GE.write 9 14 rfl hs16 h2 gg16 hk hb16) ⟨_,rfl,upd_some gg16 hk,hb16,h1⟩
 · intro γ u w' hC hgh hall
   obtain ⟨u0,u1,u2,u3,u4,u5,u6,u7,u8,u9,u10,u11,u12,u13,u14,_⟩:=hall
   have u0:u 0=.pointer (some ⟨b,o,none⟩):=u0
   have u2:u 2=.pointer (some ⟨c,p,none⟩):=u2
   have u3:u 3=.pointer (some ⟨c,p,none⟩):=u3
   have u4:u 4=.pointer (some ⟨c,p,none⟩):=u4
   have u5:u 5=.pointer (some ⟨d,q,none⟩):=u5
   have u6:u 6=.pointer (some ⟨d,q,none⟩):=u6
   have u7:u 7=.pointer (some ⟨d,q,none⟩):=u7
   obtain ⟨g15,eu8,ga15,hb15,h15⟩:=u8
   have u8:u 8=.pointer (some ⟨g15,0,none⟩):=eu8
   have u10:u 10=.pointer (some ⟨c,p,none⟩):=u10
   have u12:u 12=.pointer (some ⟨d,q,none⟩):=u12
   obtain ⟨g21,eu14,ga21,hb21,h21⟩:=u14
   have u14:u 14=.pointer (some ⟨g21,0,none⟩):=eu14
   simp only [qZ7,List.take_succ_cons,List.take_zero,Act.put,List.setIfInBounds_toArray,List.set_cons_succ,List.set_cons_zero,Nat.zero_add,Nat.reduceAdd,u0,u2,u3,u4,u5,u6,u7,u8,u10,u12,u14]
   clear u0 u2 u3 u4 u5 u6 u7 u8 u10 u12 u14
   have HC:=Lib.hid hC
   have H15:=Lib.hid h15
   have H21:=Lib.hid h21
   clear hC h15 h21 ga15 ga21 hb15 hb21
   go_wp2_with fail
   refine (qY5 (HZ.out.on HC.out.below) H15.out H21.out (Int.mul_ne_zero (qH9 x) (qH9 y)) (okn_mul KX.out.1 KY.out.1) (okn_mul KX.out.2 KY.out.2)).mono ?_
   rintro e w3 ⟨rfl,h1,h2⟩
   rw [divInt_mul] at h1
   have H1:=Lib.hid h1
   have HT:=Lib.hid ((Touch.of_below HC.out.below b o 4).trans h2)
   clear h1 h2
   go_wp2
   go_ret
   exact ⟨rfl,H1.out,HT.out⟩
theorem divInt_quo (x y:Rat):Rat.divInt (x.num*(y.den:Int)) ((x.den:Int)*y.num)=x/y:=by
 rw [← Rat.divInt_mul_divInt,Rat.num_divInt_den,← Rat.inv_def,Rat.div_def]
theorem divInt_Add (x y:Rat):Rat.divInt (x.num*(y.den:Int)+y.num*(x.den:Int)) ((x.den:Int)*(y.den:Int))=x+y:=by
 rw [Rat.add_def',← Int.natCast_mul]; rfl
set_option maxHeartbeats 1600000 in
set_option maxRecDepth 100000 in
theorem rAdd_any {w:World} {b o c p d q:Nat} {x y:Rat} (hz:Slot w b o 4) (hx:RatAt w c p x) (hy:RatAt w d q y) (kx:OkR x) (ky:OkR y) :
  Calls Tryz.prog 128 #[.pointer (some ⟨b,o,none⟩),.pointer (some ⟨c,p,none⟩),.pointer (some ⟨d,q,none⟩)] w fun e w'=>e=.returned (.pointer (some ⟨b,o,none⟩))∧RatAt w' b o (x+y)∧Touch w w' b o 4:=by
 have HX:=Lib.hid hx
 have HY:=Lib.hid hy
 have HZ:=Lib.hid hz
 have KX:=Lib.hid kx
 have KY:=Lib.hid ky
 clear hx hy hz kx ky
 go_enter Tryz.func128,Tryz.ntmps128
 go_wp2
 refine qK3 6 (GC w.heap.size w [0,5]) (fun γ wq _ wr=>GE w.heap.size [] γ wq wr) (fun i γ wq v=>match i with
   | 0=>VA w.heap.size wq v
   | 1=>v=.pointer (some ⟨c,p,none⟩)
   | 2=>v=.pointer (some ⟨c,p,none⟩)
   | 3=>v=.pointer (some ⟨c,p,none⟩)
   | 4=>v=.pointer (some ⟨d,q,none⟩)
   | 5=>VD ((y).den:Int) wq v
   | _=>True) (by kernel_rfl) (by kernel_rfl) (by kernel_rfl) (GC.start _ (Nat.le_refl _)) ?_ ⟨?_,?_,?_,?_,?_,?_,trivial⟩ ?_
 · intro i γ w1 k xq w2 v hC hC2 hE hk hi hV
   match i with
   | 0=>exact VA.stable hV hE
   | 1=>exact hV
   | 2=>exact hV
   | 3=>exact hV
   | 4=>exact hV
   | 5=>exact VD.stable 5 hV hC hE hi rfl
   | _+6=>trivial
 · intro a' γ w' hag hC hk hd K hK
   have hb:Below w'.heap.size w' (w'.alloc (.cells #[.bool false,.slice none 0 0] 161)):=(Below.refl _ _).alloc (Nat.le_refl _) _
   have HK:=Lib.hid (hK (.pointer (some ⟨w'.heap.size,0,none⟩)) _ (hC.own 0 _ _ hb (IntAt.new w').lt (.inr (Nat.le_refl _))) (GE.below _ _ hb) ⟨_,rfl,hC.size,(IntAt.new w').slot⟩)
   clear hb hK hC
   go_step
   exact HK.out
 · intro a' γ w' hag hC hk hd K hK
   have e1:a'.tmps.getD 1 undef=.pointer (some ⟨c,p,none⟩):=hag 1 rfl
   go_step
   exact hK _ _ (hC.step 1 _ rfl (Below.refl _ _)) (GE.refl _ _ _ _) rfl
 · intro a' γ w' hag hC hk hd K hK
   have e9:a'.tmps.getD 9 undef=.pointer (some ⟨c,p,none⟩):=hd.1.2
   go_step
   exact hK _ _ (hC.step 2 _ rfl (Below.refl _ _)) (GE.refl _ _ _ _) rfl
 · intro a' γ w' hag hC hk hd K hK
   have e10:a'.tmps.getD 10 undef=.pointer (some ⟨c,p,none⟩):=hd.1.2
   go_step
   exact hK _ _ (hC.step 3 _ rfl (Below.refl _ _)) (GE.refl _ _ _ _) rfl
 · intro a' γ w' hag hC hk hd K hK
   have e2:a'.tmps.getD 2 undef=.pointer (some ⟨d,q,none⟩):=hag 2 rfl
   go_step
   exact hK _ _ (hC.step 4 _ rfl (Below.refl _ _)) (GE.refl _ _ _ _) rfl
 · intro a' γ w' hag hC hk hd K hK
   have e12:a'.tmps.getD 12 undef=.pointer (some ⟨d,q,none⟩):=hd.1.2
   have hx:=HY.out.on hC.below
   go_step
   refine (zQ3 hx).mono ?_
   rintro e w2 ⟨g,j,rfl,h1,h2,h3⟩
   exact hK _ _ (hC.own 5 _ _ h2 h1.lt (h3.imp (fun e=>by rw [e]; exact HY.out.lt) id)) (GE.below _ _ h2) ⟨_,_,rfl,h1⟩
 · intro γ u w' hC hgh hall
   obtain ⟨u0,u1,u2,u3,u4,u5,_⟩:=hall
   obtain ⟨g8,eu0,hb8,hs8⟩:=u0
   have u0:u 0=.pointer (some ⟨g8,0,none⟩):=eu0
   have u1:u 1=.pointer (some ⟨c,p,none⟩):=u1
   have u2:u 2=.pointer (some ⟨c,p,none⟩):=u2
   have u3:u 3=.pointer (some ⟨c,p,none⟩):=u3
   have u4:u 4=.pointer (some ⟨d,q,none⟩):=u4
   obtain ⟨g13,i13,eu5,h13⟩:=u5
   have u5:u 5=.pointer (some ⟨g13,i13,none⟩):=eu5
   simp only [qZ7,List.take_succ_cons,List.take_zero,Act.put,List.setIfInBounds_toArray,List.set_cons_succ,List.set_cons_zero,Nat.zero_add,Nat.reduceAdd,u0,u1,u2,u3,u4,u5]
   clear u0 u1 u2 u3 u4 u5
   have HC:=Lib.hid hC.below
   have HB8:=Lib.hid hb8
   have HS8:=Lib.hid hs8
   have H13:=Lib.hid h13
   have hx1:=HX.out.on HC.out
   clear hC hb8 hs8 h13
   go_wp2_with fail
   refine (mul_any HS8.out hx1.num H13.out KX.out.num KY.out.den).mono ?_
   rintro e w1 ⟨rfl,h1,h2⟩
   have HB1:Hid (Below w.heap.size w w1):=HC.out.trans (h2.below HB8.out HC.out.size)
   have H1:=Lib.hid h1
   clear h1 h2 hx1 H13 HS8 HC
   have HX1:=Lib.hid (HX.out.on HB1.out)
   have HY1:=Lib.hid (HY.out.on HB1.out)
   go_wp2
   refine qK3 9 (GC w1.heap.size w1 [2,7]) (fun γ wq _ wr=>GE w1.heap.size [(2,8)] γ wq wr) (fun i γ wq v=>match i with
     | 0=>v=.pointer (some ⟨g8,0,none⟩)
     | 1=>v=.pointer (some ⟨g8,0,none⟩)
     | 2=>VA w1.heap.size wq v
     | 3=>v=.pointer (some ⟨d,q,none⟩)
     | 4=>v=.pointer (some ⟨d,q,none⟩)
     | 5=>v=.pointer (some ⟨d,q,none⟩)
     | 6=>v=.pointer (some ⟨c,p,none⟩)
     | 7=>VD ((x).den:Int) wq v
     | 8=>VM w1.heap.size 2 (y.num*(x.den:Int)) γ wq v
     | _=>True) (by kernel_rfl) (by kernel_rfl) (by kernel_rfl) (GC.start _ (Nat.le_refl _)) ?_ ⟨?_,?_,?_,?_,?_,?_,?_,?_,?_,trivial⟩ ?_
   · intro i γ w1 k xq w2 v hC hC2 hE hk hi hV
     match i with
     | 0=>exact hV
     | 1=>exact hV
     | 2=>exact VA.stable hV hE
     | 3=>exact hV
     | 4=>exact hV
     | 5=>exact hV
     | 6=>exact hV
     | 7=>exact VD.stable 7 hV hC hE hi rfl
     | 8=>exact VM.stable 8 k hV hC hE hk hi rfl
     | _+9=>trivial
   · intro a' γ w' hag hC hk hd K hK
     have e7:a'.tmps.getD 7 undef=.pointer (some ⟨g8,0,none⟩):=hag 7 rfl
     go_step
     exact hK _ _ (hC.step 0 _ rfl (Below.refl _ _)) (GE.refl _ _ _ _) rfl
   · intro a' γ w' hag hC hk hd K hK
     have e7:a'.tmps.getD 7 undef=.pointer (some ⟨g8,0,none⟩):=hag 7 rfl
     go_step
     exact hK _ _ (hC.step 1 _ rfl (Below.refl _ _)) (GE.refl _ _ _ _) rfl
   · intro a' γ w' hag hC hk hd K hK
     have hb:Below w'.heap.size w' (w'.alloc (.cells #[.bool false,.slice none 0 0] 161)):=(Below.refl _ _).alloc (Nat.le_refl _) _
     have HK:=Lib.hid (hK (.pointer (some ⟨w'.heap.size,0,none⟩)) _ (hC.own 2 _ _ hb (IntAt.new w').lt (.inr (Nat.le_refl _))) (GE.below _ _ hb) ⟨_,rfl,hC.size,(IntAt.new w').slot⟩)
     clear hb hK hC
     go_step
     exact HK.out
   · intro a' γ w' hag hC hk hd K hK
     have e2:a'.tmps.getD 2 undef=.pointer (some ⟨d,q,none⟩):=hag 2 rfl
     go_step
     exact hK _ _ (hC.step 3 _ rfl (Below.refl _ _)) (GE.refl _ _ _ _) rfl
   · intro a' γ w' hag hC hk hd K hK
     have e18:a'.tmps.getD 18 undef=.pointer (some ⟨d,q,none⟩):=hd.1.2
     go_step
     exact hK _ _ (hC.step 4 _ rfl (Below.refl _ _)) (GE.refl _ _ _ _) rfl
   · intro a' γ w' hag hC hk hd K hK
     have e19:a'.tmps.getD 19 undef=.pointer (some ⟨d,q,none⟩):=hd.1.2
     go_step
     exact hK _ _ (hC.step 5 _ rfl (Below.refl _ _)) (GE.refl _ _ _ _) rfl
   · intro a' γ w' hag hC hk hd K hK
     have e1:a'.tmps.getD 1 undef=.pointer (some ⟨c,p,none⟩):=hag 1 rfl
     go_step
     exact hK _ _ (hC.step 6 _ rfl (Below.refl _ _)) (GE.refl _ _ _ _) rfl
   · intro a' γ w' hag hC hk hd K hK
     have e21:a'.tmps.getD 21 undef=.pointer (some ⟨c,p,none⟩):=hd.1.2
     have hx:=HX1.out.on hC.below
     go_step
     refine (zQ3 hx).mono ?_
     rintro e w2 ⟨g,j,rfl,h1,h2,h3⟩
     exact hK _ _ (hC.own 7 _ _ h2 h1.lt (h3.imp (fun e=>by rw [e]; exact HX1.out.lt) id)) (GE.below _ _ h2) ⟨_,_,rfl,h1⟩
   · intro a' γ w' hag hC hk hd K hK
     have q17:VA w1.heap.size w' (a'.tmps.getD 17 undef):=hd.1.2
     have gg17:γ 2=some (a'.tmps.getD 17 undef):=hd.1.1
     obtain ⟨g17,e17,hb17,hs17⟩:=q17
     rw [e17] at gg17
     have e17:a'.tmps.getD 17 undef=.pointer (some ⟨g17,0,none⟩):=e17
     have e20:a'.tmps.getD 20 undef=.pointer (some ⟨d,q,none⟩):=hd.2.1.2
     have q22:VD ((x).den:Int) w' (a'.tmps.getD 22 undef):=hd.2.2.1.2
     have gg22:γ 7=some (a'.tmps.getD 22 undef):=hd.2.2.1.1
     obtain ⟨g22,i22,e22,h22⟩:=q22
     rw [e22] at gg22
     have e22:a'.tmps.getD 22 undef=.pointer (some ⟨g22,i22,none⟩):=e22
     have hx:=Lib.hid (mul_any hs17 (HY1.out.on hC.below).num h22 KY.out.num KX.out.den)
     go_step
     refine hx.out.mono ?_
     rintro e w2 ⟨rfl,h1,h2⟩
     exact hK _ _ (hC.step 8 _ rfl (h2.below hb17 hC.size)) (GE.write 2 8 rfl hs17 h2 gg17 hk hb17) ⟨_,rfl,upd_some gg17 hk,hb17,h1⟩
   · intro γ u w' hC hgh hall
     obtain ⟨u0,u1,u2,u3,u4,u5,u6,u7,u8,_⟩:=hall
     have u0:u 0=.pointer (some ⟨g8,0,none⟩):=u0
     have u1:u 1=.pointer (some ⟨g8,0,none⟩):=u1
     have u3:u 3=.pointer (some ⟨d,q,none⟩):=u3
     have u4:u 4=.pointer (some ⟨d,q,none⟩):=u4
     have u5:u 5=.pointer (some ⟨d,q,none⟩):=u5
     have u6:u 6=.pointer (some ⟨c,p,none⟩):=u6
     obtain ⟨g23,eu8,ga23,hb23,h23⟩:=u8
     have u8:u 8=.pointer (some ⟨g23,0,none⟩):=eu8
     simp only [qZ7,List.take_succ_cons,List.take_zero,Act.put,List.setIfInBounds_toArray,List.set_cons_succ,List.set_cons_zero,Nat.zero_add,Nat.reduceAdd,u0,u1,u3,u4,u5,u6,u8]
     clear u0 u1 u3 u4 u5 u6 u8
     have HC2:=Lib.hid hC.below
     have H23:=Lib.hid h23
     have h1':=H1.out.on HC2.out
     clear hC h23 ga23 hb23
     go_wp2_with fail
     refine (Add_any h1'.slot h1' H23.out (okn_mul KX.out.1 KY.out.2) (okn_mul KY.out.1 KX.out.2)).mono ?_
     rintro e w3 ⟨rfl,h2,h3⟩
     have HB3:Hid (Below w.heap.size w w3):=(HB1.out.trans (HC2.out.mono HB1.out.size)).trans (h3.below HB8.out (Nat.le_trans HB1.out.size HC2.out.size))
     have HN:=Lib.hid h2
     clear h1' h2 h3 H23 HC2 HX1 HY1 HB1 H1
     have ha:Below w3.heap.size w3 (w3.alloc (.cells #[.bool false,.slice none 0 0] 161)):=(Below.refl _ _).alloc (Nat.le_refl _) _
     have hx3:=(HX.out.on HB3.out).on ha
     go_wp2_with fail
     refine (zQ3 hx3).mono ?_
     rintro e w4 ⟨gx,ix,rfl,h1,h2,h3⟩
     have hb4:=ha.trans (h2.mono ha.size)
     have HB4:=Lib.hid hb4
     have HDX:=Lib.hid h1
     have HNX:Hid (gx≠w3.heap.size):=by
      have h4:=ha.size
      have h5:=HX.out.lt
      have h6:=HB3.out.size
      have h7:(w3.alloc (.cells #[.bool false,.slice none 0 0] 161)).heap.size=w3.heap.size+1:=by simp [World.alloc_eq]
      unfold Hid
      omega
     have HS:Hid (Slot w4 w3.heap.size 0 2):=(IntAt.new w3).slot.on h2
     clear h1 h2 h3 hx3 ha hb4
     have hy4:=(HY.out.on HB3.out).on HB4.out
     go_wp2_with fail
     refine (zQ3 hy4).mono ?_
     rintro e w5 ⟨gy,iy,rfl,h1,h2,h3⟩
     have hs5:=HS.out.on h2
     have hd5:=HDX.out.on h2
     have HB5:Hid (Below w3.heap.size w3 w5):=HB4.out.trans (h2.mono HB4.out.size)
     have HDY:=Lib.hid h1
     clear h1 h2 h3 hy4
     go_wp2_with fail
     refine (mul_any hs5 hd5 HDY.out KX.out.den KY.out.den).mono ?_
     rintro e w6 ⟨rfl,h1,h2⟩
     have HB6:Hid (Below w3.heap.size w3 w6):=HB5.out.trans (h2.below (Nat.le_refl _) HB5.out.size)
     have HD:=Lib.hid h1
     clear h1 h2 hs5 hd5 HDX HDY HS HB4 HB5 HNX
     have hz6:=(HZ.out.on HB3.out).on HB6.out
     have hn6:=HN.out.on HB6.out
     go_wp2_with fail
     refine (qY5 hz6 hn6 HD.out (Int.mul_ne_zero (qH9 x) (qH9 y)) (okn_add KX.out.1 KY.out.2 KY.out.1 KX.out.2) (okn_mul KX.out.2 KY.out.2)).mono ?_
     rintro e w7 ⟨rfl,h1,h2⟩
     rw [divInt_Add] at h1
     have H1:=Lib.hid h1
     have HT:=Lib.hid ((Touch.of_below (HB3.out.trans (HB6.out.mono HB3.out.size)) b o 4).trans h2)
     clear h1 h2 hz6 hn6
     go_wp2
     go_ret
     exact ⟨rfl,H1.out,HT.out⟩
theorem divInt_Sub (x y:Rat):Rat.divInt (x.num*(y.den:Int)-y.num*(x.den:Int)) ((x.den:Int)*(y.den:Int))=x-y:=by
 rw [Rat.sub_def',← Int.natCast_mul]; rfl
set_option maxHeartbeats 1600000 in
set_option maxRecDepth 100000 in
theorem rSub_any {w:World} {b o c p d q:Nat} {x y:Rat} (hz:Slot w b o 4) (hx:RatAt w c p x) (hy:RatAt w d q y) (kx:OkR x) (ky:OkR y) :
  Calls Tryz.prog 122 #[.pointer (some ⟨b,o,none⟩),.pointer (some ⟨c,p,none⟩),.pointer (some ⟨d,q,none⟩)] w fun e w'=>e=.returned (.pointer (some ⟨b,o,none⟩))∧RatAt w' b o (x-y)∧Touch w w' b o 4:=by
 have HX:=Lib.hid hx
 have HY:=Lib.hid hy
 have HZ:=Lib.hid hz
 have KX:=Lib.hid kx
 have KY:=Lib.hid ky
 clear hx hy hz kx ky
 go_enter Tryz.func122,Tryz.ntmps122
 go_wp2
 refine qK3 6 (GC w.heap.size w [0,5]) (fun γ wq _ wr=>GE w.heap.size [] γ wq wr) (fun i γ wq v=>match i with
   | 0=>VA w.heap.size wq v
   | 1=>v=.pointer (some ⟨c,p,none⟩)
   | 2=>v=.pointer (some ⟨c,p,none⟩)
   | 3=>v=.pointer (some ⟨c,p,none⟩)
   | 4=>v=.pointer (some ⟨d,q,none⟩)
   | 5=>VD ((y).den:Int) wq v
   | _=>True) (by kernel_rfl) (by kernel_rfl) (by kernel_rfl) (GC.start _ (Nat.le_refl _)) ?_ ⟨?_,?_,?_,?_,?_,?_,trivial⟩ ?_
 · intro i γ w1 k xq w2 v hC hC2 hE hk hi hV
   match i with
   | 0=>exact VA.stable hV hE
   | 1=>exact hV
   | 2=>exact hV
   | 3=>exact hV
   | 4=>exact hV
   | 5=>exact VD.stable 5 hV hC hE hi rfl
   | _+6=>trivial
 · intro a' γ w' hag hC hk hd K hK
   have hb:Below w'.heap.size w' (w'.alloc (.cells #[.bool false,.slice none 0 0] 161)):=(Below.refl _ _).alloc (Nat.le_refl _) _
   have HK:=Lib.hid (hK (.pointer (some ⟨w'.heap.size,0,none⟩)) _ (hC.own 0 _ _ hb (IntAt.new w').lt (.inr (Nat.le_refl _))) (GE.below _ _ hb) ⟨_,rfl,hC.size,(IntAt.new w').slot⟩)
   clear hb hK hC
   go_step
   exact HK.out
 · intro a' γ w' hag hC hk hd K hK
   have e1:a'.tmps.getD 1 undef=.pointer (some ⟨c,p,none⟩):=hag 1 rfl
   go_step
   exact hK _ _ (hC.step 1 _ rfl (Below.refl _ _)) (GE.refl _ _ _ _) rfl
 · intro a' γ w' hag hC hk hd K hK
   have e9:a'.tmps.getD 9 undef=.pointer (some ⟨c,p,none⟩):=hd.1.2
   go_step
   exact hK _ _ (hC.step 2 _ rfl (Below.refl _ _)) (GE.refl _ _ _ _) rfl
 · intro a' γ w' hag hC hk hd K hK
   have e10:a'.tmps.getD 10 undef=.pointer (some ⟨c,p,none⟩):=hd.1.2
   go_step
   exact hK _ _ (hC.step 3 _ rfl (Below.refl _ _)) (GE.refl _ _ _ _) rfl
 · intro a' γ w' hag hC hk hd K hK
   have e2:a'.tmps.getD 2 undef=.pointer (some ⟨d,q,none⟩):=hag 2 rfl
   go_step
   exact hK _ _ (hC.step 4 _ rfl (Below.refl _ _)) (GE.refl _ _ _ _) rfl
 · intro a' γ w' hag hC hk hd K hK
   have e12:a'.tmps.getD 12 undef=.pointer (some ⟨d,q,none⟩):=hd.1.2
   have hx:=HY.out.on hC.below
   go_step
   refine (zQ3 hx).mono ?_
   rintro e w2 ⟨g,j,rfl,h1,h2,h3⟩
   exact hK _ _ (hC.own 5 _ _ h2 h1.lt (h3.imp (fun e=>by rw [e]; exact HY.out.lt) id)) (GE.below _ _ h2) ⟨_,_,rfl,h1⟩
 · intro γ u w' hC hgh hall
   obtain ⟨u0,u1,u2,u3,u4,u5,_⟩:=hall
   obtain ⟨g8,eu0,hb8,hs8⟩:=u0
   have u0:u 0=.pointer (some ⟨g8,0,none⟩):=eu0
   have u1:u 1=.pointer (some ⟨c,p,none⟩):=u1
   have u2:u 2=.pointer (some ⟨c,p,none⟩):=u2
   have u3:u 3=.pointer (some ⟨c,p,none⟩):=u3
   have u4:u 4=.pointer (some ⟨d,q,none⟩):=u4
   obtain ⟨g13,i13,eu5,h13⟩:=u5
   have u5:u 5=.pointer (some ⟨g13,i13,none⟩):=eu5
   simp only [qZ7,List.take_succ_cons,List.take_zero,Act.put,List.setIfInBounds_toArray,List.set_cons_succ,List.set_cons_zero,Nat.zero_add,Nat.reduceAdd,u0,u1,u2,u3,u4,u5]
   clear u0 u1 u2 u3 u4 u5
   have HC:=Lib.hid hC.below
   have HB8:=Lib.hid hb8
   have HS8:=Lib.hid hs8
   have H13:=Lib.hid h13
   have hx1:=HX.out.on HC.out
   clear hC hb8 hs8 h13
   go_wp2_with fail
   refine (mul_any HS8.out hx1.num H13.out KX.out.num KY.out.den).mono ?_
   rintro e w1 ⟨rfl,h1,h2⟩
   have HB1:Hid (Below w.heap.size w w1):=HC.out.trans (h2.below HB8.out HC.out.size)
   have H1:=Lib.hid h1
   clear h1 h2 hx1 H13 HS8 HC
   have HX1:=Lib.hid (HX.out.on HB1.out)
   have HY1:=Lib.hid (HY.out.on HB1.out)
   go_wp2
   refine qK3 9 (GC w1.heap.size w1 [2,7]) (fun γ wq _ wr=>GE w1.heap.size [(2,8)] γ wq wr) (fun i γ wq v=>match i with
     | 0=>v=.pointer (some ⟨g8,0,none⟩)
     | 1=>v=.pointer (some ⟨g8,0,none⟩)
     | 2=>VA w1.heap.size wq v
     | 3=>v=.pointer (some ⟨d,q,none⟩)
     | 4=>v=.pointer (some ⟨d,q,none⟩)
     | 5=>v=.pointer (some ⟨d,q,none⟩)
     | 6=>v=.pointer (some ⟨c,p,none⟩)
     | 7=>VD ((x).den:Int) wq v
     | 8=>VM w1.heap.size 2 (y.num*(x.den:Int)) γ wq v
     | _=>True) (by kernel_rfl) (by kernel_rfl) (by kernel_rfl) (GC.start _ (Nat.le_refl _)) ?_ ⟨?_,?_,?_,?_,?_,?_,?_,?_,?_,trivial⟩ ?_
   · intro i γ w1 k xq w2 v hC hC2 hE hk hi hV
     match i with
     | 0=>exact hV
     | 1=>exact hV
     | 2=>exact VA.stable hV hE
     | 3=>exact hV
     | 4=>exact hV
     | 5=>exact hV
     | 6=>exact hV
     | 7=>exact VD.stable 7 hV hC hE hi rfl
     | 8=>exact VM.stable 8 k hV hC hE hk hi rfl
     | _+9=>trivial
   · intro a' γ w' hag hC hk hd K hK
     have e7:a'.tmps.getD 7 undef=.pointer (some ⟨g8,0,none⟩):=hag 7 rfl
     go_step
     exact hK _ _ (hC.step 0 _ rfl (Below.refl _ _)) (GE.refl _ _ _ _) rfl
   · intro a' γ w' hag hC hk hd K hK
     have e7:a'.tmps.getD 7 undef=.pointer (some ⟨g8,0,none⟩):=hag 7 rfl
     go_step
     exact hK _ _ (hC.step 1 _ rfl (Below.refl _ _)) (GE.refl _ _ _ _) rfl
   · intro a' γ w' hag hC hk hd K hK
     have hb:Below w'.heap.size w' (w'.alloc (.cells #[.bool false,.slice none 0 0] 161)):=(Below.refl _ _).alloc (Nat.le_refl _) _
     have HK:=Lib.hid (hK (.pointer (some ⟨w'.heap.size,0,none⟩)) _ (hC.own 2 _ _ hb (IntAt.new w').lt (.inr (Nat.le_refl _))) (GE.below _ _ hb) ⟨_,rfl,hC.size,(IntAt.new w').slot⟩)
     clear hb hK hC
     go_step
     exact HK.out
   · intro a' γ w' hag hC hk hd K hK
     have e2:a'.tmps.getD 2 undef=.pointer (some ⟨d,q,none⟩):=hag 2 rfl
     go_step
     exact hK _ _ (hC.step 3 _ rfl (Below.refl _ _)) (GE.refl _ _ _ _) rfl
   · intro a' γ w' hag hC hk hd K hK
     have e18:a'.tmps.getD 18 undef=.pointer (some ⟨d,q,none⟩):=hd.1.2
     go_step
     exact hK _ _ (hC.step 4 _ rfl (Below.refl _ _)) (GE.refl _ _ _ _) rfl
   · intro a' γ w' hag hC hk hd K hK
     have e19:a'.tmps.getD 19 undef=.pointer (some ⟨d,q,none⟩):=hd.1.2
     go_step
     exact hK _ _ (hC.step 5 _ rfl (Below.refl _ _)) (GE.refl _ _ _ _) rfl
   · intro a' γ w' hag hC hk hd K hK
     have e1:a'.tmps.getD 1 undef=.pointer (some ⟨c,p,none⟩):=hag 1 rfl
     go_step
     exact hK _ _ (hC.step 6 _ rfl (Below.refl _ _)) (GE.refl _ _ _ _) rfl
   · intro a' γ w' hag hC hk hd K hK
     have e21:a'.tmps.getD 21 undef=.pointer (some ⟨c,p,none⟩):=hd.1.2
     have hx:=HX1.out.on hC.below
     go_step
     refine (zQ3 hx).mono ?_
     rintro e w2 ⟨g,j,rfl,h1,h2,h3⟩
     exact hK _ _ (hC.own 7 _ _ h2 h1.lt (h3.imp (fun e=>by rw [e]; exact HX1.out.lt) id)) (GE.below _ _ h2) ⟨_,_,rfl,h1⟩
   · intro a' γ w' hag hC hk hd K hK
     have q17:VA w1.heap.size w' (a'.tmps.getD 17 undef):=hd.1.2
     have gg17:γ 2=some (a'.tmps.getD 17 undef):=hd.1.1
     obtain ⟨g17,e17,hb17,hs17⟩:=q17
     rw [e17] at gg17
     have e17:a'.tmps.getD 17 undef=.pointer (some ⟨g17,0,none⟩):=e17
     have e20:a'.tmps.getD 20 undef=.pointer (some ⟨d,q,none⟩):=hd.2.1.2
     have q22:VD ((x).den:Int) w' (a'.tmps.getD 22 undef):=hd.2.2.1.2
     have gg22:γ 7=some (a'.tmps.getD 22 undef):=hd.2.2.1.1
     obtain ⟨g22,i22,e22,h22⟩:=q22
     rw [e22] at gg22
     have e22:a'.tmps.getD 22 undef=.pointer (some ⟨g22,i22,none⟩):=e22
     have hx:=Lib.hid (mul_any hs17 (HY1.out.on hC.below).num h22 KY.out.num KX.out.den)
     go_step
     refine hx.out.mono ?_
     rintro e w2 ⟨rfl,h1,h2⟩
     exact hK _ _ (hC.step 8 _ rfl (h2.below hb17 hC.size)) (GE.write 2 8 rfl hs17 h2 gg17 hk hb17) ⟨_,rfl,upd_some gg17 hk,hb17,h1⟩
   · intro γ u w' hC hgh hall
     obtain ⟨u0,u1,u2,u3,u4,u5,u6,u7,u8,_⟩:=hall
     have u0:u 0=.pointer (some ⟨g8,0,none⟩):=u0
     have u1:u 1=.pointer (some ⟨g8,0,none⟩):=u1
     have u3:u 3=.pointer (some ⟨d,q,none⟩):=u3
     have u4:u 4=.pointer (some ⟨d,q,none⟩):=u4
     have u5:u 5=.pointer (some ⟨d,q,none⟩):=u5
     have u6:u 6=.pointer (some ⟨c,p,none⟩):=u6
     obtain ⟨g23,eu8,ga23,hb23,h23⟩:=u8
     have u8:u 8=.pointer (some ⟨g23,0,none⟩):=eu8
     simp only [qZ7,List.take_succ_cons,List.take_zero,Act.put,List.setIfInBounds_toArray,List.set_cons_succ,List.set_cons_zero,Nat.zero_add,Nat.reduceAdd,u0,u1,u3,u4,u5,u6,u8]
     clear u0 u1 u3 u4 u5 u6 u8
     have HC2:=Lib.hid hC.below
     have H23:=Lib.hid h23
     have h1':=H1.out.on HC2.out
     clear hC h23 ga23 hb23
     go_wp2_with fail
     refine (Sub_any h1'.slot h1' H23.out (okn_mul KX.out.1 KY.out.2) (okn_mul KY.out.1 KX.out.2)).mono ?_
     rintro e w3 ⟨rfl,h2,h3⟩
     have HB3:Hid (Below w.heap.size w w3):=(HB1.out.trans (HC2.out.mono HB1.out.size)).trans (h3.below HB8.out (Nat.le_trans HB1.out.size HC2.out.size))
     have HN:=Lib.hid h2
     clear h1' h2 h3 H23 HC2 HX1 HY1 HB1 H1
     have ha:Below w3.heap.size w3 (w3.alloc (.cells #[.bool false,.slice none 0 0] 161)):=(Below.refl _ _).alloc (Nat.le_refl _) _
     have hx3:=(HX.out.on HB3.out).on ha
     go_wp2_with fail
     refine (zQ3 hx3).mono ?_
     rintro e w4 ⟨gx,ix,rfl,h1,h2,h3⟩
     have hb4:=ha.trans (h2.mono ha.size)
     have HB4:=Lib.hid hb4
     have HDX:=Lib.hid h1
     have HNX:Hid (gx≠w3.heap.size):=by
      have h4:=ha.size
      have h5:=HX.out.lt
      have h6:=HB3.out.size
      have h7:(w3.alloc (.cells #[.bool false,.slice none 0 0] 161)).heap.size=w3.heap.size+1:=by simp [World.alloc_eq]
      unfold Hid
      omega
     have HS:Hid (Slot w4 w3.heap.size 0 2):=(IntAt.new w3).slot.on h2
     clear h1 h2 h3 hx3 ha hb4
     have hy4:=(HY.out.on HB3.out).on HB4.out
     go_wp2_with fail
     refine (zQ3 hy4).mono ?_
     rintro e w5 ⟨gy,iy,rfl,h1,h2,h3⟩
     have hs5:=HS.out.on h2
     have hd5:=HDX.out.on h2
     have HB5:Hid (Below w3.heap.size w3 w5):=HB4.out.trans (h2.mono HB4.out.size)
     have HDY:=Lib.hid h1
     clear h1 h2 h3 hy4
     go_wp2_with fail
     refine (mul_any hs5 hd5 HDY.out KX.out.den KY.out.den).mono ?_
     rintro e w6 ⟨rfl,h1,h2⟩
     have HB6:Hid (Below w3.heap.size w3 w6):=HB5.out.trans (h2.below (Nat.le_refl _) HB5.out.size)
     have HD:=Lib.hid h1
     clear h1 h2 hs5 hd5 HDX HDY HS HB4 HB5 HNX
     have hz6:=(HZ.out.on HB3.out).on HB6.out
     have hn6:=HN.out.on HB6.out
     go_wp2_with fail
     refine (qY5 hz6 hn6 HD.out (Int.mul_ne_zero (qH9 x) (qH9 y)) (okn_sub KX.out.1 KY.out.2 KY.out.1 KX.out.2) (okn_mul KX.out.2 KY.out.2)).mono ?_
     rintro e w7 ⟨rfl,h1,h2⟩
     rw [divInt_Sub] at h1
     have H1:=Lib.hid h1
     have HT:=Lib.hid ((Touch.of_below (HB3.out.trans (HB6.out.mono HB3.out.size)) b o 4).trans h2)
     clear h1 h2 hz6 hn6
     go_wp2
     go_ret
     exact ⟨rfl,H1.out,HT.out⟩
end Go.Proofs.YtbepimnlleilfaaGreat
end
