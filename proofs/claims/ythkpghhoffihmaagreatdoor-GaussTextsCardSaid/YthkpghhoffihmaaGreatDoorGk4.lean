/- IntC, Bym, IntD, IntE, IntF, Wh, Nb, Rat, RegH. -/
import Derived.Laws.IdiomStrings
import Derived.Laws.BytesArg
import Derived.Laws.BitsLemmas
import Derived.Laws.StructEq
import Derived.Laws.Tables
import Derived.Test.YthkpghhoffihmaaGreatDoorGk3
set_option linter.unnecessarySimpa false
set_option linter.unusedVariables false
set_option linter.unusedSimpArgs false
section
namespace Go.Proofs.YthkpghhoffihmaaGreatDoor
open Go.RowKit
theorem SetInt64_any {w:World} {b o:Nat} {n:Int} (hz:Slot w b o 2) (hr : -9223372036854775808≤n∧n≤9223372036854775807) :
  Calls Tryz.prog 239 #[.pointer (some ⟨b,o,none⟩),.int .i64 n] w fun e w'=>e=.returned (.pointer (some ⟨b,o,none⟩))∧IntAt w' b o n∧Touch w w' b o 2:=by
 have HZ:=Lib.hid hz
 have HR:=Lib.hid hr
 obtain ⟨k,hk⟩:∃ k,k=n.natAbs:=⟨_,rfl⟩
 have HKB:Hid (k≤18446744073709551615):=by unfold Hid; omega
 have HS:Hid (sg (decide (n<0)) k=n):=by unfold Hid; rw [hk,sg_of]
 by_cases h:n<0
 · have hw1:IntKind.u64.wrap n=18446744073709551616+n:=by simp [IntKind.wrap,IntKind.bits,IntKind.signed]; omega
   have hw2:IntKind.u64.wrap (-(18446744073709551616+n))=(k:Int):=by simp [IntKind.wrap,IntKind.bits,IntKind.signed]; omega
   have hd:decide (n<0)=true:=by simpa using h
   rw [hd] at HS
   clear hz hr hk
   go_enter Tryz.func239,Tryz.ntmps239
   go_wp2_with fail
   refine (of_any k HKB.out).mono ?_
   rintro e w1 ⟨v,rfl,h1,h2⟩
   obtain ⟨A,m,c,rfl⟩:=h1.form
   have hz1:=HZ.out.on h2
   have H1:=Lib.hid h1
   have H2:=Lib.hid h2
   clear h1 h2
   go_wp2_with fail
   refine (is_any true hz1 H1.out).mono ?_
   rintro e w3 ⟨rfl,h1,h2⟩
   rw [val_dig,HS.out] at h1
   have H3:=Lib.hid h1
   have H4:=Lib.hid h2
   clear h1 h2 hz1
   go_wp2
   go_ret
   exact ⟨rfl,H3.out,(Touch.of_below H2.out b o 2).trans H4.out⟩
 · have hw1:IntKind.u64.wrap n=(k:Int):=by simp [IntKind.wrap,IntKind.bits,IntKind.signed]; omega
   have hd:decide (n<0)=false:=by simpa using h
   rw [hd] at HS
   clear hz hr hk
   go_enter Tryz.func239,Tryz.ntmps239
   go_wp2_with fail
   refine (of_any k HKB.out).mono ?_
   rintro e w1 ⟨v,rfl,h1,h2⟩
   obtain ⟨A,m,c,rfl⟩:=h1.form
   have hz1:=HZ.out.on h2
   have H1:=Lib.hid h1
   have H2:=Lib.hid h2
   clear h1 h2
   go_wp2_with fail
   refine (is_any false hz1 H1.out).mono ?_
   rintro e w3 ⟨rfl,h1,h2⟩
   rw [val_dig,HS.out] at h1
   have H3:=Lib.hid h1
   have H4:=Lib.hid h2
   clear h1 h2 hz1
   go_wp2
   go_ret
   exact ⟨rfl,H3.out,(Touch.of_below H2.out b o 2).trans H4.out⟩
theorem NewInt_any {w:World} {n:Int} (hr : -9223372036854775808≤n∧n≤9223372036854775807) :
  Calls Tryz.prog 107 #[.int .i64 n] w fun e w'=>∃ b,e=.returned (.pointer (some ⟨b,0,none⟩))∧w.heap.size≤b∧IntAt w' b 0 n∧Below w.heap.size w w':=by
 have HR:=Lib.hid hr
 clear hr
 go_enter Tryz.func107,Tryz.ntmps107
 go_wp2_with fail
 refine (SetInt64_any (b:=w.heap.size) (o:=0) ?_ HR.out).mono ?_
 · exact (IntAt.new _).slot
 rintro e w1 ⟨rfl,h1,h2⟩
 have H1:=Lib.hid h1
 have H2:=Lib.hid h2
 clear h1 h2
 go_wp2
 go_ret
 exact ⟨_,rfl,Nat.le_refl _,H1.out,((Below.refl _ _).alloc (Nat.le_refl _) _).trans (H2.out.below (Nat.le_refl _) ((Below.refl w.heap.size w).alloc (Nat.le_refl _) _).size)⟩
theorem sg_tdiv (n m:Int):sg (decide (n<0) != decide (m<0)) (n.natAbs/m.natAbs)=n.tdiv m:=by
 rcases Int.lt_or_le n 0 with h | h<;>rcases Int.lt_or_le m 0 with k | k
 · obtain ⟨a,rfl⟩:∃ a:Nat,n = -(a:Int):=⟨n.natAbs,by omega⟩
   obtain ⟨c,rfl⟩:∃ c:Nat,m = -(c:Int):=⟨m.natAbs,by omega⟩
   have h1:decide (-(a:Int)<0)=true:=by simpa using h
   have h2:decide (-(c:Int)<0)=true:=by simpa using k
   rw [h1,h2,Int.tdiv_neg,Int.neg_tdiv,Int.neg_neg,← Int.ofNat_tdiv,Int.natAbs_neg,Int.natAbs_neg,Int.natAbs_natCast,Int.natAbs_natCast]
   simp [sg]
 · obtain ⟨a,rfl⟩:∃ a:Nat,n = -(a:Int):=⟨n.natAbs,by omega⟩
   obtain ⟨c,rfl⟩:∃ c:Nat,m=(c:Int):=⟨m.natAbs,by omega⟩
   have h1:decide (-(a:Int)<0)=true:=by simpa using h
   have h2:decide ((c:Int)<0)=false:=by simpa using k
   rw [h1,h2,Int.neg_tdiv,← Int.ofNat_tdiv,Int.natAbs_neg,Int.natAbs_natCast,Int.natAbs_natCast]
   simp [sg]
 · obtain ⟨a,rfl⟩:∃ a:Nat,n=(a:Int):=⟨n.natAbs,by omega⟩
   obtain ⟨c,rfl⟩:∃ c:Nat,m = -(c:Int):=⟨m.natAbs,by omega⟩
   have h1:decide ((a:Int)<0)=false:=by simpa using h
   have h2:decide (-(c:Int)<0)=true:=by simpa using k
   rw [h1,h2,Int.tdiv_neg,← Int.ofNat_tdiv,Int.natAbs_neg,Int.natAbs_natCast,Int.natAbs_natCast]
   simp [sg]
 · obtain ⟨a,rfl⟩:∃ a:Nat,n=(a:Int):=⟨n.natAbs,by omega⟩
   obtain ⟨c,rfl⟩:∃ c:Nat,m=(c:Int):=⟨m.natAbs,by omega⟩
   have h1:decide ((a:Int)<0)=false:=by simpa using h
   have h2:decide ((c:Int)<0)=false:=by simpa using k
   rw [h1,h2,← Int.ofNat_tdiv,Int.natAbs_natCast,Int.natAbs_natCast]
   simp [sg]
theorem sg_tmod (n m:Int):sg (decide (n<0)) (n.natAbs % m.natAbs)=n.tmod m:=by
 have e:n.natAbs % m.natAbs=(n.tmod m).natAbs:=by rw [Int.natAbs_tmod]
 rw [e]
 by_cases h:n<0
 · have h1:decide (n<0)=true:=by simpa using h
   obtain ⟨a,rfl⟩:∃ a:Nat,n = -(a:Int):=⟨n.natAbs,by omega⟩
   rw [h1,Int.neg_tmod,Int.natAbs_neg]
   have:0≤(a:Int).tmod m:=Int.tmod_nonneg _ (Int.natCast_nonneg a)
   simp only [sg,if_true]
   omega
 · have h1:decide (n<0)=false:=by simpa using h
   have:0≤n.tmod m:=Int.tmod_nonneg _ (by omega)
   rw [h1]
   simp only [sg,Bool.false_eq_true,if_false]
   omega
theorem QuoRem_any {w:World} {b o c p d q g i:Nat} {n m:Int} (hz:Slot w b o 2) (hr:Slot w g i 2) (hx:IntAt w c p n) (hy:IntAt w d q m) (h0:m≠0) (hn:Okn n) :
  Calls Tryz.prog 359 #[.pointer (some ⟨b,o,none⟩),.pointer (some ⟨c,p,none⟩),.pointer (some ⟨d,q,none⟩),.pointer (some ⟨g,i,none⟩)] w fun e w'=>e=.returned (.tuple #[.pointer (some ⟨b,o,none⟩),.pointer (some ⟨g,i,none⟩)]) ∧
   ∃ w1,IntAt w1 g i (n.tmod m)∧Touch w w1 g i 2∧IntAt w' b o (n.tdiv m)∧Touch w1 w' b o 2:=by
 obtain ⟨A,la,ca,hx0,hx1,hxv,hxl⟩:=hx.open_
 obtain ⟨B,lb,cb,hy0,hy1,hyv,hyl⟩:=hy.open_
 have hm0:0<m.natAbs:=by omega
 have hla:la≤4294967296:=by have:=hxv.len.1; unfold Okn at hn; omega
 have HX0:=Lib.hid hx0
 have HX1:=Lib.hid hx1
 have HXV:=Lib.hid hxv
 have HY0:=Lib.hid hy0
 have HY1:=Lib.hid hy1
 have HYV:=Lib.hid hyv
 have HZ:=Lib.hid hz
 have HR:=Lib.hid hr
 have HM0:=Lib.hid hm0
 have HLA:=Lib.hid hla
 clear hx hy hx0 hx1 hxv hy0 hy1 hyv hz hr hm0 hla hn h0
 go_enter Tryz.func359,Tryz.ntmps359
 go_wp2
 refine wp_region_acts 14 (fun w'=>Below w.heap.size w w') (fun w w'=>Below w.heap.size w w') (fun i w v=>match i with
   | 0=>v=.pointer (some ⟨c,p,none⟩)
   | 1=>v=.pointer (some ⟨c,p,none⟩)
   | 2=>v=.pointer (some ⟨c,p+1,none⟩)
   | 3=>v=.slice A la ca
   | 4=>v=.pointer (some ⟨d,q,none⟩)
   | 5=>v=.pointer (some ⟨d,q,none⟩)
   | 6=>v=.pointer (some ⟨d,q+1,none⟩)
   | 7=>v=.slice B lb cb
   | 8=>∃ A1 m1 c1 A2 m2 c2,v=.tuple #[.slice A1 m1 c1,.slice A2 m2 c2]∧Words w (.slice A1 m1 c1) (dig (n.natAbs/m.natAbs))∧Words w (.slice A2 m2 c2) (dig (n.natAbs % m.natAbs))
   | 9=>∃ A1 m1 c1 A2 m2 c2,v=.tuple #[.slice A1 m1 c1,.slice A2 m2 c2]∧Words w (.slice A1 m1 c1) (dig (n.natAbs/m.natAbs))∧Words w (.slice A2 m2 c2) (dig (n.natAbs % m.natAbs))
   | 10=>∃ A1 m1 c1,v=.slice A1 m1 c1∧Words w (.slice A1 m1 c1) (dig (n.natAbs/m.natAbs))
   | 11=>∃ A1 m1 c1,v=.slice A1 m1 c1∧Words w (.slice A1 m1 c1) (dig (n.natAbs % m.natAbs))
   | 12=>∃ A1 m1 c1,v=.slice A1 m1 c1∧Words w (.slice A1 m1 c1) (dig (n.natAbs/m.natAbs))
   | _=>∃ A1 m1 c1,v=.slice A1 m1 c1∧Words w (.slice A1 m1 c1) (dig (n.natAbs % m.natAbs))) (by kernel_rfl) (by kernel_rfl) (by kernel_rfl) ((Below.refl _ _).drew) (fun _ _=>Below.refl _ _) ?_ ⟨?_,?_,?_,?_,?_,?_,?_,?_,?_,?_,?_,?_,?_,?_,trivial⟩ ?_
 · intro i w1 w2 v hC hC2 hE hV
   match i with
   | 0=>exact hV
   | 1=>exact hV
   | 2=>exact hV
   | 3=>exact hV
   | 4=>exact hV
   | 5=>exact hV
   | 6=>exact hV
   | 7=>exact hV
   | 8=>obtain ⟨A1,m1,c1,A2,m2,c2,e,h,k⟩:=hV; exact ⟨A1,m1,c1,A2,m2,c2,e,h.below hE,k.below hE⟩
   | 9=>obtain ⟨A1,m1,c1,A2,m2,c2,e,h,k⟩:=hV; exact ⟨A1,m1,c1,A2,m2,c2,e,h.below hE,k.below hE⟩
   | 10=>obtain ⟨A1,m1,c1,e,h⟩:=hV; exact ⟨A1,m1,c1,e,h.below hE⟩
   | 11=>obtain ⟨A1,m1,c1,e,h⟩:=hV; exact ⟨A1,m1,c1,e,h.below hE⟩
   | 12=>obtain ⟨A1,m1,c1,e,h⟩:=hV; exact ⟨A1,m1,c1,e,h.below hE⟩
   | _+13=>obtain ⟨A1,m1,c1,e,h⟩:=hV; exact ⟨A1,m1,c1,e,h.below hE⟩
 · intro a' w' hag hC hd K hK
   have e1:a'.tmps.getD 1 undef=.pointer (some ⟨c,p,none⟩):=hag 1 rfl
   go_step
   exact hK _ _ hC (Below.refl _ _) rfl
 · intro a' w' hag hC hd K hK
   have e15:a'.tmps.getD 15 undef=.pointer (some ⟨c,p,none⟩):=hd.1
   go_step
   exact hK _ _ hC (Below.refl _ _) rfl
 · intro a' w' hag hC hd K hK
   have e16:a'.tmps.getD 16 undef=.pointer (some ⟨c,p,none⟩):=hd.1
   go_step
   exact hK _ _ hC (Below.refl _ _) rfl
 · intro a' w' hag hC hd K hK
   have e17:a'.tmps.getD 17 undef=.pointer (some ⟨c,p+1,none⟩):=hd.1
   have hcell:w'.cell? ⟨c,p+1,none⟩=some (.slice A la ca):=by rw [hC.cell (p:=⟨c,p+1,none⟩) hxl]; exact HX1.out
   have HC:=Lib.hid hC
   clear hC
   go_step
   exact hK _ _ HC.out (Below.refl _ _) rfl
 · intro a' w' hag hC hd K hK
   have e2:a'.tmps.getD 2 undef=.pointer (some ⟨d,q,none⟩):=hag 2 rfl
   go_step
   exact hK _ _ hC (Below.refl _ _) rfl
 · intro a' w' hag hC hd K hK
   have e19:a'.tmps.getD 19 undef=.pointer (some ⟨d,q,none⟩):=hd.1
   go_step
   exact hK _ _ hC (Below.refl _ _) rfl
 · intro a' w' hag hC hd K hK
   have e20:a'.tmps.getD 20 undef=.pointer (some ⟨d,q,none⟩):=hd.1
   go_step
   exact hK _ _ hC (Below.refl _ _) rfl
 · intro a' w' hag hC hd K hK
   have e21:a'.tmps.getD 21 undef=.pointer (some ⟨d,q+1,none⟩):=hd.1
   have hcell:w'.cell? ⟨d,q+1,none⟩=some (.slice B lb cb):=by rw [hC.cell (p:=⟨d,q+1,none⟩) hyl]; exact HY1.out
   have HC:=Lib.hid hC
   clear hC
   go_step
   exact hK _ _ HC.out (Below.refl _ _) rfl
 · intro a' w' hag hC hd K hK
   have e18:a'.tmps.getD 18 undef=.slice A la ca:=hd.1
   have e22:a'.tmps.getD 22 undef=.slice B lb cb:=hd.2.1
   go_step
   refine (divide_any (HXV.out.below hC) (HYV.out.below hC) HM0.out HLA.out).mono ?_
   rintro e w2 ⟨v1,v2,rfl,h1,h2,h3⟩
   obtain ⟨A1,m1,c1,rfl⟩:=h1.form
   obtain ⟨A2,m2,c2,rfl⟩:=h2.form
   exact hK _ _ (hC.trans (h3.mono hC.size)) h3 ⟨_,_,_,_,_,_,rfl,h1,h2⟩
 · intro a' w' hag hC hd K hK
   obtain ⟨A1,m1,c1,A2,m2,c2,e23,hq',hr'⟩:=hd.1
   have e23:a'.tmps.getD 23 undef=.tuple #[.slice A1 m1 c1,.slice A2 m2 c2]:=e23
   go_step
   exact hK _ _ hC (Below.refl _ _) ⟨A1,m1,c1,A2,m2,c2,rfl,hq',hr'⟩
 · intro a' w' hag hC hd K hK
   obtain ⟨A1,m1,c1,A2,m2,c2,e14,hq',hr'⟩:=hd.1
   have e14:a'.tmps.getD 14 undef=.tuple #[.slice A1 m1 c1,.slice A2 m2 c2]:=e14
   go_step
   exact hK _ _ hC (Below.refl _ _) ⟨_,_,_,rfl,hq'⟩
 · intro a' w' hag hC hd K hK
   obtain ⟨A1,m1,c1,A2,m2,c2,e14,hq',hr'⟩:=hd.1
   have e14:a'.tmps.getD 14 undef=.tuple #[.slice A1 m1 c1,.slice A2 m2 c2]:=e14
   go_step
   exact hK _ _ hC (Below.refl _ _) ⟨_,_,_,rfl,hr'⟩
 · intro a' w' hag hC hd K hK
   obtain ⟨A1,m1,c1,e24,hq'⟩:=hd.1
   have e24:a'.tmps.getD 24 undef=.slice A1 m1 c1:=e24
   go_step
   exact hK _ _ hC (Below.refl _ _) ⟨A1,m1,c1,rfl,hq'⟩
 · intro a' w' hag hC hd K hK
   obtain ⟨A2,m2,c2,e25,hr'⟩:=hd.1
   have e25:a'.tmps.getD 25 undef=.slice A2 m2 c2:=e25
   go_step
   exact hK _ _ hC (Below.refl _ _) ⟨A2,m2,c2,rfl,hr'⟩
 · intro u w' hC hall
   obtain ⟨u0,u1,u2,u3,u4,u5,u6,u7,u8,u9,u10,u11,u12,u13,_⟩:=hall
   have u0:u 0=.pointer (some ⟨c,p,none⟩):=u0
   have u1:u 1=.pointer (some ⟨c,p,none⟩):=u1
   have u2:u 2=.pointer (some ⟨c,p+1,none⟩):=u2
   have u3:u 3=.slice A la ca:=u3
   have u4:u 4=.pointer (some ⟨d,q,none⟩):=u4
   have u5:u 5=.pointer (some ⟨d,q,none⟩):=u5
   have u6:u 6=.pointer (some ⟨d,q+1,none⟩):=u6
   have u7:u 7=.slice B lb cb:=u7
   obtain ⟨A1,m1,c1,eu12,hq'⟩:=u12
   have u12:u 12=.slice A1 m1 c1:=eu12
   obtain ⟨A2,m2,c2,eu13,hr'⟩:=u13
   have u13:u 13=.slice A2 m2 c2:=eu13
   simp only [fillR,List.take_succ_cons,List.take_zero,Act.put,List.setIfInBounds_toArray,List.set_cons_succ,List.set_cons_zero,Nat.zero_add,Nat.reduceAdd,u0,u1,u2,u3,u4,u5,u6,u7,u12,u13]
   clear u0 u1 u2 u3 u4 u5 u6 u7 u12 u13
   have hcx:w'.cell? ⟨c,p,none⟩=some (.bool (decide (n<0))):=by rw [hC.cell (p:=⟨c,p,none⟩) hxl]; exact HX0.out
   have hcy:w'.cell? ⟨d,q,none⟩=some (.bool (decide (m<0))):=by rw [hC.cell (p:=⟨d,q,none⟩) hyl]; exact HY0.out
   have HC:=Lib.hid hC
   have HQ:=Lib.hid hq'
   have HRR:=Lib.hid hr'
   clear hC hq' hr'
   go_wp2
   go_quiet (fail)
   clear hcx hcy
   go_wp2_with (at_builtin; refine wpList_append_copy rfl (.const (.slice none 0 0)) (.tmp 41) rfl _ _ _ _ rfl rfl HRR.out (fun v' w2 h1 h2=>?_))
   obtain ⟨A3,m3,c3,rfl⟩:=h1.form
   have hb2:Below w.heap.size w w2:=HC.out.trans ((Below.drewN_ (Below.refl _ _) nq).trans (h2.mono HC.out.size))
   have hr2:Slot w2 g i 2:=HR.out.on hb2
   have hz2:Slot w2 b o 2:=HZ.out.on hb2
   have hq2:Words w2 (.slice A1 m1 c1) (dig (n.natAbs/m.natAbs)):=HQ.out.below ((Below.drewN_ (Below.refl w'.heap.size w') nq).trans h2)
   refine (is_any (decide (n<0)) hr2 h1).mono ?_
   rintro e w3 ⟨rfl,h3,h4⟩
   rw [val_dig,sg_tmod] at h3
   have hq3:=hq2.touch hr2 h4
   have hz3:=hz2.touch h4
   have HQ3:=Lib.hid hq3
   have HZ3:=Lib.hid hz3
   have H3:=Lib.hid h3
   have H4:=Lib.hid h4
   have HB2:=Lib.hid hb2
   clear h1 h2 h3 h4 hb2 hr2 hz2 hq2 hq3 hz3
   go_wp2_with fail
   refine (is_any (decide (n<0) != decide (m<0)) HZ3.out HQ3.out).mono ?_
   rintro e w4 ⟨rfl,h5,h6⟩
   rw [val_dig,sg_tdiv] at h5
   have H5:=Lib.hid h5
   have H6:=Lib.hid h6
   clear h5 h6
   go_wp2
   go_ret2
   exact ⟨rfl,_,H3.out,(Touch.of_below HB2.out g i 2).trans H4.out,H5.out,H6.out⟩
theorem Quo_any {w:World} {b o c p d q:Nat} {n m:Int} (hz:Slot w b o 2) (hx:IntAt w c p n) (hy:IntAt w d q m) (h0:m≠0) (hn:Okn n) :
  Calls Tryz.prog 320 #[.pointer (some ⟨b,o,none⟩),.pointer (some ⟨c,p,none⟩),.pointer (some ⟨d,q,none⟩)] w fun e w'=>e=.returned (.pointer (some ⟨b,o,none⟩))∧IntAt w' b o (n.tdiv m)∧Touch w w' b o 2:=by
 have HX:=Lib.hid hx
 have HY:=Lib.hid hy
 have HZ:=Lib.hid hz
 have HN:=Lib.hid hn
 have H0:=Lib.hid h0
 clear hx hy hz hn h0
 go_enter Tryz.func320,Tryz.ntmps320
 go_wp2_with fail
 have ha:Below w.heap.size w (w.alloc (.cells #[.bool false,.slice none 0 0] 177)):=(Below.refl _ _).alloc (Nat.le_refl _) _
 refine (QuoRem_any (HZ.out.on ha) (IntAt.new w).slot (HX.out.on ha) (HY.out.on ha) H0.out HN.out).mono ?_
 rintro e w2 ⟨rfl,w1,_,h1,h2,h3⟩
 have H2:=Lib.hid h2
 have HT:Hid (Touch w w2 b o 2):=(Touch.of_below (ha.trans (h1.below (Nat.le_refl _) ha.size)) b o 2).trans h3
 clear h1 h2 h3 ha
 go_wp2
 go_ret
 exact ⟨rfl,H2.out,HT.out⟩
theorem Okn.small {n:Int} (h:n.natAbs<4294967296^100):Okn n:=Nat.le_trans (dig_len_le _ 100 h) (by decide)
def wholeV (n:Int):Value:=.agg #[.bool (decide (n<0)),.string (mag n.natAbs)]
def fracV (q:Rat):Value:=.agg #[.bool (decide (q.num<0)),.string (mag q.num.natAbs),.bool false,.string (mag q.den)]
def Byt (w:World) (v:Value) (xs:List Nat):Prop :=
 B8 xs∧∃ b cap cs t fr,v=.slice (some ⟨b,0,none⟩) xs.length cap∧w.heap[b]?=some (.cells cs t fr)∧∀ i,i<xs.length→cs[i]?=some (.int .u8 (xs.getD i 0:Nat))
theorem Byt.on {w w':World} {v:Value} {xs:List Nat} (h:Byt w v xs) (k:Below w.heap.size w w'):Byt w' v xs:=by
 obtain ⟨h0,b,cap,cs,t,fr,h1,h2,h3⟩:=h
 exact ⟨h0,b,cap,cs,t,fr,h1,by rw [k.block b (heap_some_lt h2)]; exact h2,h3⟩
theorem Byt.form {w:World} {v:Value} {xs:List Nat} (h:Byt w v xs):∃ b n cap,v=.slice (some ⟨b,0,none⟩) n cap:=by
 obtain ⟨_,b,cap,_,_,_,h1,_⟩:=h
 exact ⟨b,_,cap,h1⟩
theorem Byt.open_ {w:World} {b n cap:Nat} {xs:List Nat} (h:Byt w (.slice (some ⟨b,0,none⟩) n cap) xs):n=xs.length∧B8 xs∧b<w.heap.size∧∀ i,i<xs.length→w.cell? ⟨b,i,none⟩=some (.int .u8 (xs.getD i 0:Nat)):=by
 obtain ⟨h0,b',cap',cs,t,fr,h1,h2,h3⟩:=h
 injection h1 with h1 h4 h5
 cases Option.some.inj h1
 exact ⟨h4,h0,heap_some_lt h2,fun i hi=>by rw [cell_of_row _ _ _ _ _ _ h2]; exact h3 i hi⟩
theorem strOfNums_nat (xs:List Nat):strOfNums (xs.map Int.ofNat)=strN xs:=by
 have e:(xs.map Int.ofNat).map (fun n:Int=>UInt8.ofNat n.toNat)=xs.map UInt8.ofNat:=by
  rw [List.map_map]
  exact List.map_congr_left fun x _=>rfl
 unfold strOfNums strN
 rw [e]
theorem string_of_byt {w:World} {v:Value} {xs:List Nat} (h:Byt w v xs):(convert 57 9 v).run Tryz.prog w=.ok (.string (strN xs)) w:=by
 obtain ⟨b,n,cap,rfl⟩:=h.form
 obtain ⟨h1,h2,_,h4⟩:=h.open_
 have hc:∀ i,i<n→w.cell? ⟨b,0+i,none⟩=some (.int .u8 ((xs.map Int.ofNat).getD i 0)):=by
  intro i hi
  have hi2:i<xs.length:=by omega
  rw [Nat.zero_add,h4 i hi2]
  simp only [List.getD,List.getElem?_map,List.getElem?_eq_getElem hi2,Option.map_some,Option.getD_some]
  rfl
 rw [← strOfNums_nat]
 exact run_convert_bytes_arg (P:=Tryz.prog) w _ _ Tryz.underlying57 Tryz.underlying5 b 0 n cap (xs.map Int.ofNat) (by rw [List.length_map,h1]) hc _ Tryz.underlying9
def BBuf (w:World) (g:Nat) (xs:List Nat):Prop :=
 B8 xs∧∃ cs,w.heap[g]?=some (.cells cs 5 (0,0))∧xs.length≤cs.size∧∀ i,i<xs.length→cs[i]?=some (.int .u8 (xs.getD i 0:Nat))
theorem BBuf.lt {w:World} {g:Nat} {xs:List Nat} (h:BBuf w g xs):g<w.heap.size:=by obtain ⟨_,_,h,_⟩:=h; exact heap_some_lt h
theorem BBuf.cell {w:World} {g:Nat} {xs:List Nat} (h:BBuf w g xs) (i:Nat) (hi:i<xs.length):w.cell? ⟨g,i,none⟩=some (.int .u8 (xs.getD i 0:Nat)):=by
 obtain ⟨_,cs,h1,_,h3⟩:=h
 rw [cell_of_row w g i cs _ _ h1]
 exact h3 i hi
theorem BBuf.frozen {w:World} {g:Nat} {xs:List Nat} (h:BBuf w g xs) (i:Nat):w.frozen? ⟨g,i,none⟩=false:=by
 obtain ⟨_,cs,h1,_⟩:=h
 simp [World.frozen?,h1]
theorem B8.set {xs:List Nat} (h:B8 xs) (i x:Nat) (hx:x<256):B8 (xs.set i x):=by
 intro y hy
 rcases List.mem_or_eq_of_mem_set hy with h1 | rfl
 · exact h y h1
 · exact hx
theorem B8.zeros (k:Nat):B8 (List.replicate k 0):=by
 intro x hx
 rw [(List.mem_replicate.1 hx).2]; decide
theorem B8.snoc {xs:List Nat} {x:Nat} (h:B8 xs) (k:x<256):B8 (xs++[x]):=by
 intro y hy
 rcases List.mem_append.1 hy with h1 | h1
 · exact h y h1
 · rw [List.mem_singleton.1 h1]; exact k
theorem BBuf.set {w:World} {g:Nat} {xs:List Nat} (h:BBuf w g xs) (i x:Nat) (n:Int) (hx:x<256) (hn:n=x):BBuf (w.setCell ⟨g,i,none⟩ (.int .u8 n)) g (xs.set i x):=by
 obtain ⟨hw,cs,h1,h2,h3⟩:=h
 subst hn
 refine ⟨hw.set i x hx,cs.setIfInBounds i (.int .u8 (x:Int)),by simp [World.setCell,Array.getElem?_modify,h1],by simpa using h2,fun j hj=>?_⟩
 rw [List.length_set] at hj
 rw [Array.getElem?_setIfInBounds,getD_set]
 by_cases hij:i=j
 · subst hij
   rw [if_pos rfl,if_pos (by omega),if_pos ⟨rfl,hj⟩]
 · simp [hij]
   have:=h3 j hj
   simpa using this
theorem BBuf.byt {w:World} {g cap n:Nat} {xs:List Nat} (h:BBuf w g xs) (hn:xs.length=n):Byt w (.slice (some ⟨g,0,none⟩) n cap) xs:=by
 obtain ⟨hw,cs,h1,h2,h3⟩:=h
 exact ⟨hw,g,cap,cs,_,_,by rw [hn],h1,h3⟩
theorem u8_info:(Tryz.prog.info? 5).map (fun i=>(i.zero,i.size,i.bytes))=some (some (.int .u8 0),1,1):=by kernel_rfl
theorem madeCells_byte (n i:Nat) (h:i<n):(madeCells (Value.int .u8 0).cells n)[i]?=some (.int .u8 0):=by
 simp [madeCells,h,Value.cells,Nat.mod_one]
theorem run_make_bytes (w:World) (kl kc:IntKind) (l c:Int) (n m:Nat) (hl:l=n) (hc:c=m) (hnm:n≤m) (hm:m≤34359738368) :
  ∃ w',(Instr.makeSlice 57 (.int kl l) (.int kc c)).run Tryz.prog w=.ok (.slice (some ⟨w.heap.size,0,none⟩) n m) w'∧BBuf w' w.heap.size (List.replicate m 0)∧Below w.heap.size w w'∧w'.heap.size=w.heap.size+1:=by
 obtain ⟨i0,hi,hz0,hz1,hz2⟩:=info_parts u8_info
 subst hl hc
 have hr:=run_make (P:=Tryz.prog) w 57 5 i0 (.int .u8 0) Tryz.underlying57 hi hz0 kl kc n m (by omega) (by omega) (by rw [hz2]; omega) (by omega)
 rw [hz1] at hr
 simp only [Int.toNat_natCast,Nat.mul_one] at hr
 refine ⟨_,hr,⟨B8.zeros m,_,heap_alloc_new w _,by simp [size_madeCells],fun i hi=>?_⟩,(Below.refl _ _).alloc (Nat.le_refl _) _,by simp⟩
 rw [List.length_replicate] at hi
 rw [madeCells_byte m i hi,getD_in (by simpa using hi),List.getElem_replicate]
 rfl
theorem wpList_make_bytes {ops:Array Oper} {rest:List Oper} {o:Oper} {a:Act} {w:World} {Q:Exit→Act→World→Prop} (hg:o.guard=none) (l c:Operand) (hop:o.op=Op.makeSlice 57 l c)
  (kl kc:IntKind) (L C:Int) (n m:Nat) (hl:a.eval l=.int kl L) (hc:a.eval c=.int kc C) (hL:L=n) (hC:C=m) (hnm:n≤m) (hm:m≤34359738368)
  (hK:∀ w',BBuf w' w.heap.size (List.replicate m 0)→Below w.heap.size w w'→w'.heap.size=w.heap.size+1→wpList Tryz.prog ops Q rest (a.put o.dst (.slice (some ⟨w.heap.size,0,none⟩) n m)) w') :
  wpList Tryz.prog ops Q (o::rest) a w:=by
 refine wpList_plain hg fun K hK'=>?_
 obtain ⟨w',hrun,r1,r2,r3⟩:=run_make_bytes w kl kc L C n m hL hC hnm hm
 unfold Oper.wp
 simp [execOp,hop,hl,hc,hrun,Result.andThen]
 exact hK' _ _ (hK w' r1 r2 r3)
theorem Words.grown {w w':World} {v:Value} {xs:List Nat} {row:Option Nat} (h:Words w v xs) (k:w.grownBy w' row) (hrow:∀ g,row=some g→∃ cs fr,w.heap[g]?=some (.cells cs 5 fr)):Words w' v xs:=by
 obtain ⟨h0,h1,A,cap,h2,h3,h4⟩:=h
 refine ⟨h0,h1,A,cap,h2,h3,fun hne=>?_⟩
 obtain ⟨b,o,cs,fr,e,hb,hc⟩:=h4 hne
 refine ⟨b,o,cs,fr,e,?_,hc⟩
 rw [k.block b (heap_some_lt hb) fun e2=>?_]
 · exact hb
 · obtain ⟨cs2,fr2,h5⟩:=hrow b e2.symm
   rw [hb] at h5
   injection h5 with h5
   injection h5 with _ h5
   exact absurd h5 (by decide)
def bv (x:Nat):Value:=.int .u8 (x:Int)
def BRow (w:World) (base:Nat) (v:Value) (zs:List Nat):Prop:=B8 zs∧w.ownsRow base 5 1 v zs.length (zs.map bv)
theorem BRow.nil (w:World) (base:Nat):BRow w base (.slice none 0 0) []:=⟨B8.nil,by simpa using World.ownsRow_nil w base 5 1⟩
theorem BRow.alloc {w:World} {base:Nat} {v:Value} {zs:List Nat} (h:BRow w base v zs) (o:Obj):BRow (w.alloc o) base v zs:=⟨h.1,h.2.alloc o⟩
theorem BRow.on {w w':World} {base:Nat} {v:Value} {zs:List Nat} (h:BRow w base v zs) (k:Below w.heap.size w w'):BRow w' base v zs:=by
 obtain ⟨h0,h1,h2⟩:=h
 refine ⟨h0,h1,?_⟩
 rcases h2 with h2 | ⟨g,cap,cur,e,hg,hh,hc⟩
 · exact .inl h2
 · exact .inr ⟨g,cap,cur,e,hg,by rw [k.block g (heap_some_lt hh)]; exact hh,hc⟩
theorem BRow.open_ {w:World} {base:Nat} {v:Value} {zs:List Nat} (h:BRow w base v zs) (h0:0<zs.length) :
  ∃ g cap cs,v=.slice (some ⟨g,0,none⟩) zs.length cap∧base≤g∧zs.length≤cap∧w.heap[g]?=some (.cells cs 5 (0,0))∧∀ i,i<zs.length→cs[i]?=some (.int .u8 (zs.getD i 0:Nat)):=by
 obtain ⟨hw,hlen,h2⟩:=h
 rcases h2 with ⟨rfl,h1⟩ | ⟨g,cap,cur,rfl,hg,hh,hc,_,hcs,ht⟩
 · omega
 · refine ⟨g,cap,cur,rfl,hg,hc,hh,fun i hi=>?_⟩
   have h3:(cur.toList.take (zs.length*1))[i]?=(zs.map bv)[i]?:=by rw [ht]
   rw [List.getElem?_take_of_lt (by omega),List.getElem?_map,List.getElem?_eq_getElem hi] at h3
   rw [← Array.getElem?_toList,h3,getD_in hi]
   rfl
theorem wpList_append_byte {ops:Array Oper} {rest:List Oper} {o:Oper} {a:Act} {w:World} {Q:Exit→Act→World→Prop} (hg:o.guard=none) (s x:Operand)
  (ho:o.op=.call { callee:=.builtin .append,args:=#[s,x],argTypes:=#[57,57] })
  (base:Nat) (v:Value) (zs:List Nat) (hs:a.eval s=v) (hown:BRow w base v zs) (ad:Addr) (c:Nat) (y:Nat) (n:Int) (hx:a.eval x=.slice (some ad) 1 c) (hcell:w.cell? ad=some (.int .u8 n)) (hn:n=y)
  (hy:y<256) (hlen:zs.length≤17179869184) (hbase:base≤w.heap.size)
  (hK:∀ v' w',BRow w' base v' (zs++[y])→Below base w w'→(∀ u xs,Words w u xs→Words w' u xs)→wpList Tryz.prog ops Q rest (a.put o.dst v') w'):wpList Tryz.prog ops Q (o::rest) a w:=by
 obtain ⟨i0,hi,hz0,hz1,hz2⟩:=info_parts u8_info
 subst hn
 refine wpList_append_own w hg s x 57 ho base 5 i0 (.int .u8 0) 1 1 Tryz.underlying57 hi hz0 hz1 hz2 rfl (by decide) v zs.length (zs.map bv) hs hown.2 ad 1 c [bv y] hx rfl ?_ ?_ (by simp only [maxLen]; omega) (by omega) hbase ?_
 · intro j u hj
   cases j with
   | zero =>
    simp at hj
    subst hj
    simpa [Addr.add,bv] using hcell
   | succ j=>simp at hj
 · intro u hu
   simp at hu
   subst hu
   rfl
 · intro v' w' h1 h2 _
   refine hK v' w' ⟨hown.1.snoc hy,by simpa using h1⟩ ((Below.refl _ _).grown h2 hbase fun k hk=>?_) fun u xs hk=>?_
   · rcases hown.2.2 with ⟨rfl,_⟩ | ⟨g,cap,cur,rfl,hb,_⟩
     · simp [Value.ownBlock] at hk
     · simp [Value.ownBlock] at hk
       omega
   · refine hk.grown h2 fun g hg=>?_
     rcases hown.2.2 with ⟨rfl,_⟩ | ⟨g',cap,cur,rfl,hb,hh,_⟩
     · simp [Value.ownBlock] at hg
     · simp [Value.ownBlock] at hg
       subst hg
       exact ⟨_,_,hh⟩
def BoxAt (w:World) (g:Nat) (cs:Array Value) (t:TypeId):Prop:=w.heap[g]?=some (.cells cs t (0,0))
theorem BoxAt.new (w:World) (cs:Array Value) (t:TypeId):BoxAt (w.alloc (.cells cs t)) w.heap.size cs t:=heap_alloc_new w _
theorem BoxAt.lt {w:World} {g:Nat} {cs:Array Value} {t:TypeId} (h:BoxAt w g cs t):g<w.heap.size:=heap_some_lt h
theorem BoxAt.on {w w':World} {g:Nat} {cs:Array Value} {t:TypeId} (h:BoxAt w g cs t) (k:Below w.heap.size w w'):BoxAt w' g cs t:=by
 unfold BoxAt
 rw [k.block g h.lt]
 exact h
theorem BoxAt.cell {w:World} {g:Nat} {cs:Array Value} {t:TypeId} (h:BoxAt w g cs t) (i:Nat) (v:Value) (hv:cs[i]?=some v):w.cell? ⟨g,i,none⟩=some v:=by
 rw [cell_of_row w g i cs _ _ h]
 exact hv
theorem BoxAt.set {w:World} {g:Nat} {cs:Array Value} {t:TypeId} (h:BoxAt w g cs t) (i:Nat) (u:Value):BoxAt (w.setCell ⟨g,i,none⟩ u) g (cs.setIfInBounds i u) t:=by
 unfold BoxAt at h
 unfold BoxAt
 simp [World.setCell,Array.getElem?_modify,h]
theorem BoxAt.frozen {w:World} {g:Nat} {cs:Array Value} {t:TypeId} (h:BoxAt w g cs t) (i:Nat):w.frozen? ⟨g,i,none⟩=false:=by
 unfold BoxAt at h
 simp [World.frozen?,h]
theorem wraps_w32 (n:Int) (h0:0≤n) (h1:n<2^32):IntKind.u32.wrap n=n:=by
 simp [IntKind.wrap,IntKind.bits,IntKind.signed]; omega
theorem or_w32 (a b:Nat) (ha:a<4294967296) (hb:b<4294967296):bits BinOp.or IntKind.u32 (a:Int) (b:Int)=((a ||| b:Nat):Int):=(bits_nat .u32 32 (by decide) wraps_w32 a b ha hb).2
theorem top_bits (m l t j:Nat) (hl:(dig m).length=l) (h0:0<l) (ht:(dig m).getD (l-1) 0=t) (hj:j≤31) (h1:t*2^j<4294967296) (h2:2147483648≤t*2^j) :
  m<2^(32*l-j)∧2^(32*l-j-1)≤m:=by
 have hm:=dig_lt m
 rw [hl] at hm
 obtain ⟨k,rfl⟩:∃ k,l=k+1:=⟨l-1,by omega⟩
 rw [Nat.add_sub_cancel,dig_getD] at ht
 rw [Nat.pow_succ] at hm
 have h3:m/4294967296^k<4294967296:=Nat.div_lt_of_lt_mul hm
 rw [Nat.mod_eq_of_lt h3] at ht
 have hP:0<4294967296^k:=Nat.pow_pos (by decide)
 have e1:2^(32*(k+1)-j)=4294967296^k*2^(32-j):=by
  rw [p32,← Nat.pow_add]
  congr 1
  omega
 have e2:2^(32*(k+1)-j-1)=4294967296^k*2^(31-j):=by
  rw [p32,← Nat.pow_add]
  congr 1
  omega
 have e3:2^(32-j)*2^j=4294967296:=by rw [← Nat.pow_add,show 32-j+j=32 by omega]
 have e4:2^(31-j)*2^j=2147483648:=by rw [← Nat.pow_add,show 31-j+j=31 by omega]
 have hJ:0<2^j:=Nat.pow_pos (by decide)
 have h5:t<2^(32-j):=by rw [← e3] at h1; exact Nat.lt_of_mul_lt_mul_right h1
 have h6:2^(31-j)≤t:=by rw [← e4] at h2; exact Nat.le_of_mul_le_mul_right h2 hJ
 rw [e1,e2]
 subst ht
 exact ⟨(Nat.div_lt_iff_lt_mul hP).1 h5 |> fun h=>by rw [Nat.mul_comm]; exact h,by rw [Nat.mul_comm]; exact (Nat.le_div_iff_mul_le hP).1 h6⟩
theorem dig_top (m:Nat) (h:dig m≠[]):(dig m).getD ((dig m).length-1) 0≠0:=by
 have h0:0<m:=by
  rcases Nat.eq_zero_or_pos m with k | k
  · subst k; exact absurd dig_zero h
  · exact k
 have h1:=dig_len_ge m h0
 have h2:=dig_lt m
 have h3:0<(dig m).length:=List.length_pos_iff.2 h
 rw [dig_getD]
 generalize (dig m).length=k at *
 obtain ⟨j,rfl⟩:∃ j,k=j+1:=⟨k-1,by omega⟩
 rw [Nat.add_sub_cancel] at *
 rw [Nat.pow_succ] at h2
 have h5:0<4294967296^j:=Nat.pow_pos (by decide)
 have h6:m/4294967296^j<4294967296:=Nat.div_lt_of_lt_mul h2
 have h7:0<m/4294967296^j:=Nat.div_pos h1 h5
 omega
def Bits (m L:Nat):Prop:=m<2^L∧(0<L→2^(L-1)≤m)
theorem BitLen_any {w:World} {b o:Nat} {n:Int} (hx:IntAt w b o n) :
  Calls Tryz.prog 327 #[.pointer (some ⟨b,o,none⟩)] w fun e w'=>∃ L:Nat,e=.returned (.int .i64 (L:Int))∧Bits n.natAbs L∧L≤549755813888∧Below w.heap.size w w':=by
 obtain ⟨A,l,c,h0,h1,h2,_⟩:=hx.open_
 have hl:=h2.len.1
 have hlb:=h2.2.1
 rw [← hl] at hlb
 have hf:=hx.slot.frozen o
 have HX:=Lib.hid hx
 clear hf h0
 rcases Nat.eq_zero_or_pos l with hz | hz
 · subst hz
   have hn:n.natAbs=0:=(dig_nil_iff _).1 (List.eq_nil_of_length_eq_zero hl.symm)
   have HN:=Lib.hid hn
   clear hn hl h2 hx
   go_enter Tryz.func327,Tryz.ntmps327
   go_wp2
   go_ret
   exact ⟨0,rfl,by rw [HN.out]; exact ⟨by decide,fun h=>absurd h (by decide)⟩,by decide,Below.refl _ _⟩
 · have ht0:(dig n.natAbs).getD (l-1) 0≠0:=by
    rw [hl]
    exact dig_top _ fun e=>by rw [e] at hl; simp [hl] at hz
   obtain ⟨g,p,rfl,hc⟩:=h2.open_ hz
   have hc:=hc (l-1) (by omega)
   obtain ⟨t,ht⟩:∃ t,t=(dig n.natAbs).getD (l-1) 0:=⟨_,rfl⟩
   have ht32:t<4294967296:=by rw [ht]; exact (Wf_dig _).getD _
   have htp:0<t:=by omega
   replace hc:w.cell? ⟨g,p+(l-1),none⟩=some (.int .u32 (t:Int)):=by rw [ht]; exact hc
   have hfin:=fun j hj h1 h2=>top_bits n.natAbs l t j hl.symm hz ht.symm hj h1 h2
   have HF:=Lib.hid hfin
   have hl0:(0:Int)≤(l:Int)-1:=by omega
   clear hl h2 hx ht0 ht hfin
   go_enter Tryz.func327,Tryz.ntmps327
   go_wp2
   go_region
   go_wp2
   go_loopw [3,4] (fun i c wr=>∃ k T:Nat,k≤31∧i=.int .i64 (((32*l-k:Nat):Int))∧c=.int .u32 (T:Int)∧T<4294967296∧0<T∧Hid (T=t*2^k)∧Below w.heap.size w wr) (fun _ c _=>(4294967296-intOf c).toNat)
   case atStart=>exact ⟨0,t,by omega,by rw [Nat.sub_zero]; go_num,rfl,ht32,htp,by simp [Hid],by first | exact Below.refl _ _ | exact Below.drewN_ (Below.refl _ _) _⟩
   case round =>
    obtain ⟨k,T,hk,rfl,rfl,hT,hT0,HTT,hbb⟩:=hrel
    by_cases hdone:T<2147483648
    · have hq:(((T:Int)/2147483648)==0)=true:=by rw [beq_iff_eq]; omega
      go_wp2
      go_roundw
      case rel =>
       refine ⟨k+1,T*2,?_,by go_num,by go_num,by omega,by omega,?_,hbb⟩
       · rcases Nat.lt_or_ge k 31 with h | h
         · omega
         · exfalso
           have h1:=HTT.out
           have h2:t*2^31≤t*2^k:=Nat.mul_le_mul_left _ (Nat.pow_le_pow_right (by omega) h)
           omega
       · rw [Hid,HTT.out,Nat.pow_succ,Nat.mul_assoc]
      case measure=>simp [intOf]; omega
    · have hq:(((T:Int)/2147483648)==0)=false:=by rw [beq_eq_false_iff_ne]; omega
      have HG:=Lib.hid (HF.out k hk (by rw [← HTT.out]; exact hT) (by rw [← HTT.out]; omega))
      clear hc
      go_wp2
      go_ret
      exact ⟨32*l-k,rfl,⟨HG.out.1,fun _=>HG.out.2⟩,by omega,hbb⟩
theorem byte_into (ls ys:List Nat) (i x q s:Nat) (hw:Wf ls) (hl:i/4<ls.length) (hv:val ls=bval (ys.take i)) (hy:B8 ys) (hi:i<ys.length) (hx:ys.getD i 0=x) (hq:q=i/4) (hs:s=i % 4*8) :
  x<256∧ls.getD q 0<2^s∧(ls.getD q 0 ||| x*2^s)=ls.getD q 0+x*2^s∧ls.getD q 0+x*2^s<4294967296∧val (ls.set q (ls.getD q 0+x*2^s))=bval (ys.take (i+1)):=by
 have h1:x<256:=by rw [← hx]; exact hy.getD i
 have h2:=bval_lt (ys.take i) (hy.take i)
 rw [List.length_take,Nat.min_eq_left (by omega),← hv,p256] at h2
 have hs4:s≤24:=by omega
 have hqs:32*q+s=8*i:=by omega
 have h3:ls.getD q 0<2^s:=by
  rw [val_getD ls hw q]
  refine Nat.lt_of_le_of_lt (Nat.mod_le _ _) ?_
  rw [p32]
  refine Nat.div_lt_of_lt_mul ?_
  rw [← Nat.pow_add,hqs]
  exact h2
 have h4:=or_add (ls.getD q 0) x s h3
 have h5:ls.getD q 0+x*2^s<4294967296:=by
  have h6:x*2^s≤255*2^s:=Nat.mul_le_mul_right _ (by omega)
  have h7:2^s≤2^24:=Nat.pow_le_pow_right (by decide) hs4
  omega
 refine ⟨h1,h3,h4,h5,?_⟩
 have h8:=val_set ls q (ls.getD q 0+x*2^s) (by omega)
 rw [Nat.mul_add] at h8
 have h9:val (ls.set q (ls.getD q 0+x*2^s))=val ls+4294967296^q*(x*2^s):=by omega
 rw [h9,hv,bval_take_step,hx,p32,p256,← hqs,Nat.pow_add]
 congr 1
 rw [Nat.mul_comm x,Nat.mul_assoc]
set_option maxRecDepth 100000 in
theorem SetBytes_any {w:World} {b o h m cap:Nat} {xs:List Nat} (hz:Slot w b o 2) (hv:Byt w (.slice (some ⟨h,0,none⟩) m cap) xs) (hm:m≤4294967296) :
  Calls Tryz.prog 325 #[.pointer (some ⟨b,o,none⟩),.slice (some ⟨h,0,none⟩) m cap] w fun e w'=>e=.returned (.pointer (some ⟨b,o,none⟩))∧IntAt w' b o (bval xs.reverse)∧Touch w w' b o 2:=by
 obtain ⟨hlen,h8,hlt,_⟩:=hv.open_
 obtain ⟨ys,hys⟩:∃ ys,ys=xs.reverse:=⟨_,rfl⟩
 rw [← hys]
 have HY8:Hid (B8 ys):=by rw [hys]; exact h8.reverse
 have HYL:Hid (ys.length=m):=by rw [hys,Hid,List.length_reverse,hlen]
 have HYX:Hid (∀ i,i<m→xs.getD (m-1-i) 0=ys.getD i 0):=by
  intro i hi
  rw [getD_in (by omega),getD_in (by rw [HYL.out]; exact hi)]
  subst hys
  rw [List.getElem_reverse]
  congr 1
  omega
 have HZ:=Lib.hid hz
 have HV:=Lib.hid hv
 clear hz hv hys hlen h8 hlt
 go_enter Tryz.func325,Tryz.ntmps325
 go_wp2_with (at_make; refine wpList_make_words rfl _ _ rfl _ _ _ _ ((m+3)/4) ((m+3)/4) rfl rfl (by omega) (by omega) (by omega) (by omega) ?_)
 intro w1 hbuf hb1 hz1
 have HZ1:=Lib.hid hz1
 clear hz1
 go_wp2
 go_loopw [15] (fun i wr=>∃ (k:Nat) (ls:List Nat),k≤m∧i=.int .i64 (k:Int)∧Hid (ls.length=(m+3)/4)∧Hid (val ls=bval (ys.take k))∧Buf wr w.heap.size ls∧Below w.heap.size w wr) (fun i _=>m-(intOf i).toNat)
 case atStart=>exact ⟨0,List.replicate ((m+3)/4) 0,by omega,rfl,by simp [Hid],by rw [Hid,val_zeros]; rfl,hbuf,hb1⟩
 case round =>
  obtain ⟨k,ls,hk,rfl,HL,HVL,hbuf',hb'⟩:=hrel
  have hsz:=hb'.size
  have hblt:=hbuf'.lt
  clear hbuf hb1 HZ1
  by_cases hk0:k<m
  · obtain ⟨-,-,hhl,hcell⟩:=(HV.out.on hb').open_
    obtain ⟨q,hq⟩:∃ q,q=k/4:=⟨_,rfl⟩
    obtain ⟨r,hr⟩:∃ r,r=k % 4:=⟨_,rfl⟩
    obtain ⟨s,hs⟩:∃ s,s=k % 4*8:=⟨_,rfl⟩
    obtain ⟨x,hx⟩:∃ x,x=ys.getD k 0:=⟨_,rfl⟩
    obtain ⟨a,ha⟩:∃ a,a=ls.getD q 0:=⟨_,rfl⟩
    obtain ⟨k1,k2,k3,k4,k5⟩:=byte_into ls ys k x q s hbuf'.1 (by rw [HL.out]; omega) HVL.out HY8.out (by rw [HYL.out]; exact hk0) hx.symm hq hs
    have hqi:(k:Int)/4=(q:Int):=by omega
    have hri:(k:Int) % 4=(r:Int):=by omega
    have hsi:(r:Int)*8=(s:Int):=by omega
    have hs24:s≤24:=by omega
    have hc1:=hcell (m-1-k) (by have:=HYL.out; have h:=HV.out.open_.1; omega)
    rw [HYX.out k hk0,← hx] at hc1
    have hc2:=hbuf'.cell q (by rw [HL.out]; omega)
    rw [← ha] at hc2 k2 k3 k4 k5
    have hf:=hbuf'.frozen q
    have HB:=Lib.hid (hbuf'.set q (a+x*2^s) _ k4 rfl)
    have hne:h≠w.heap.size:=by have:=HV.out.open_.2.2.1; omega
    obtain ⟨t,ht⟩:∃ t,t=x*2^s:=⟨_,rfl⟩
    have hti:(x:Int)*2^s=(t:Int):=by rw [ht,Int.natCast_mul,Int.natCast_pow]; rfl
    rw [← ht] at k3 k4 k5 HB
    have hor:bits BinOp.or IntKind.u32 (a:Int) (t:Int)=((a+t:Nat):Int):=by rw [or_w32 a t (by omega) (by omega),k3]
    rw [Int.natCast_add] at hor HB
    have hmk:(0:Int)≤(m:Int)-1-(k:Int):=by omega
    have hmk2:((m:Int)-1-(k:Int))=((m-1-k:Nat):Int):=by omega
    have HK5:=Lib.hid k5
    have hql:q<(m+3)/4:=by omega
    have hpk:m-1-k<m:=by omega
    clear hcell ha hx ht hq hr hs k2 k3 k5 hbuf'
    go_wp2
    go_region
    go_wp2
    go_roundw
    case rel =>
     refine ⟨k+1,ls.set q (a+t),by omega,by go_num,by rw [Hid,List.length_set]; exact HL.out,HK5.out,HB.out,Below.drew (hb'.setCell (Nat.le_refl _) _)⟩
    case measure=>simp [intOf]; omega
  · obtain rfl:k=m:=by omega
    have hw:=hbuf'.words (cap:=(k+3)/4) (by rw [HL.out]; omega) (by rw [HL.out]; exact Nat.le_refl _)
    rw [HL.out] at hw
    have HW:=Lib.hid hw
    have hv:=HVL.out
    rw [List.take_of_length_le (by rw [HYL.out]; exact Nat.le_refl _)] at hv
    have HVV:=Lib.hid hv
    have hz1:=HZ.out.on hb'
    clear hbuf' hw hv
    go_wp2_with fail
    refine (is_any false hz1 HW.out).mono ?_
    rintro e w3 ⟨rfl,h1,h2⟩
    rw [HVV.out] at h1
    have H3:=Lib.hid h1
    have H4:=Lib.hid h2
    clear h1 h2 hz1
    go_wp2
    go_ret
    refine ⟨rfl,?_,(Touch.of_below hb' b o 2).trans H4.out⟩
    have:=H3.out
    simpa [sg] using this
theorem led_back (n m k:Nat) (h:(led n).length=m) (hk:k<m) :
  (List.replicate (m-k) 0++(led n).reverse.drop (m-k)).set (m-1-k) (n/256^k % 256)=List.replicate (m-(k+1)) 0++(led n).reverse.drop (m-(k+1)):=by
 obtain ⟨j,hj⟩:∃ j,m-k=j+1:=⟨m-k-1,by omega⟩
 rw [show m-1-k=j by omega,show m-(k+1)=j by omega,hj]
 have e:(led n).reverse.drop j=(n/256^k % 256)::(led n).reverse.drop (j+1):=by
  rw [List.drop_eq_getElem_cons (by rw [List.length_reverse]; omega)]
  congr 1
  rw [List.getElem_reverse,← led_getD,getD_in (by omega)]
  congr 1
  omega
 rw [e,List.replicate_succ']
 rw [List.append_assoc,List.set_append_right _ _ (by simp)]
 simp
theorem Bits.le {n L k:Nat} (h:Bits n L) (hk:n<2^k):L≤k:=by
 rcases Nat.eq_zero_or_pos L with h0 | h0
 · omega
 · have h1:=h.2 h0
   have:=(Nat.pow_lt_pow_iff_right (by decide:1<2)).1 (Nat.lt_of_le_of_lt h1 hk)
   omega
set_option maxRecDepth 100000 in
theorem Bytes_any {w:World} {b o:Nat} {n:Int} (hx:IntAt w b o n) (hn:Okn n) :
  Calls Tryz.prog 238 #[.pointer (some ⟨b,o,none⟩)] w fun e w'=>∃ v,e=.returned v∧Byt w' v (led n.natAbs).reverse∧Below w.heap.size w w':=by
 have HX:=Lib.hid hx
 have HO:=Lib.hid hn
 clear hx hn
 go_enter Tryz.func238,Tryz.ntmps238
 go_wp2_with fail
 refine (BitLen_any HX.out).mono ?_
 rintro e w1 ⟨L,rfl,hL,hLb,hb1⟩
 obtain ⟨N,hN⟩:∃ N,N=n.natAbs:=⟨_,rfl⟩
 have ho:=HO.out
 unfold Okn at ho
 rw [← hN] at hL ho
 obtain ⟨m,hm⟩:∃ m,m=(L+7)/8:=⟨_,rfl⟩
 have HM:Hid ((led N).length=m):=by rw [hm]; exact led_len_bits N L hL.1 hL.2
 have hmi:((L:Int)+7)/8=(m:Int):=by omega
 have hLL:=hL.le (by have:=dig_lt N; rw [p32] at this; exact this)
 have hmb:m≤17179869185:=by omega
 have HN:=Lib.hid hN
 have HB1:=Lib.hid hb1
 have HS1:Hid (w.heap.size≤w1.heap.size):=hb1.size
 clear hL hm hb1 hN hLL ho
 go_wp2_with (at_make; refine wpList_make_bytes rfl _ _ rfl _ _ _ _ m m rfl rfl (by omega) (by omega) (Nat.le_refl _) (by omega) ?_)
 intro w2 hbuf hb2 hz2
 have HB2:=Lib.hid hz2
 clear hz2
 go_wp2
 go_loopw [14] (fun i wr=>∃ (k:Nat),k≤m∧i=.int .i64 (k:Int)∧BBuf wr w1.heap.size (List.replicate (m-k) 0++(led N).reverse.drop (m-k))∧Below w1.heap.size w1 wr) (fun i _=>m-(intOf i).toNat)
 case atStart=>exact ⟨0,by omega,rfl,by rw [Nat.sub_zero,List.drop_of_length_le (by rw [List.length_reverse,HM.out]; exact Nat.le_refl _),List.append_nil]; exact hbuf,hb2⟩
 case round =>
  obtain ⟨k,hk,rfl,hbuf',hb'⟩:=hrel
  have hsz:=hb'.size
  have hblt:=hbuf'.lt
  clear hbuf hb2 HB2
  by_cases hk0:k<m
  · have hx:=HX.out.on (HB1.out.trans (hb'.mono HS1.out))
    obtain ⟨A,l,c,h0,h1,h2,hlt⟩:=hx.open_
    rw [← HN.out] at h2
    have hl:=h2.len.1
    obtain ⟨q,hq⟩:∃ q,q=k/4:=⟨_,rfl⟩
    obtain ⟨r,hr⟩:∃ r,r=k % 4:=⟨_,rfl⟩
    obtain ⟨s,hs⟩:∃ s,s=k % 4*8:=⟨_,rfl⟩
    have hql:q<l:=by
     have h3:=led_len_le N (4*l) (by have:=dig_lt N; rw [← hl,p32] at this; rw [p256]; rwa [show 8*(4*l)=32*l by omega])
     have:=HM.out
     omega
    obtain ⟨g,p,rfl,hall⟩:=h2.open_ (by omega)
    have hc:=hall q hql
    obtain ⟨x,hx'⟩:∃ x,x=N/4294967296^q % 4294967296:=⟨_,rfl⟩
    have hx32:x<4294967296:=by rw [hx']; exact Nat.mod_lt _ (by decide)
    replace hc:wr.cell? ⟨g,p+q,none⟩=some (.int .u32 (x:Int)):=by rw [hx',← dig_getD]; exact hc
    obtain ⟨y,hy⟩:∃ y,y=x/2^s:=⟨_,rfl⟩
    have hsh:(x:Int)/2^s=(y:Int):=by rw [hy,Int.natCast_ediv]; simp
    have hyb:y<4294967296:=by rw [hy]; exact Nat.lt_of_le_of_lt (Nat.div_le_self _ _) hx32
    have hbyte:y % 256=N/256^k % 256:=by rw [hy,hx',hq,hs]; exact byte_word N k
    have HBY:=Lib.hid hbyte
    have hqi:(k:Int)/4=(q:Int):=by omega
    have hri:(k:Int) % 4=(r:Int):=by omega
    have hsi:(r:Int)*8=(s:Int):=by omega
    have hs24:s≤24:=by omega
    have hmk2:((m:Int)-1-(k:Int))=((m-1-k:Nat):Int):=by omega
    have hc2:=hbuf'.cell (m-1-k) (by rw [List.length_append,List.length_replicate]; omega)
    have hf:=hbuf'.frozen (m-1-k)
    have HB:=Lib.hid (hbuf'.set (m-1-k) (y % 256) _ (Nat.mod_lt _ (by decide)) rfl)
    have HH:=Lib.hid hb'
    clear hall h0 h2 hx hl hx' hy hbyte hbuf' hb' hq hr hs
    go_wp2
    go_roundw
    case rel =>
     refine ⟨k+1,by omega,by go_num,?_,HH.out.setCell (Nat.le_refl _) _⟩
     have h:=HB.out
     have h2:=led_back N m k HM.out hk0
     rw [← HBY.out] at h2
     rw [h2] at h
     exact h
    case measure=>simp [intOf]; omega
  · obtain rfl:k=m:=by omega
    rw [Nat.sub_self,List.replicate_zero,List.nil_append,List.drop_zero] at hbuf'
    have HV:=Lib.hid (hbuf'.byt (n:=k) (cap:=k) (by rw [List.length_reverse]; exact HM.out))
    clear hbuf'
    go_wp2
    go_ret
    exact ⟨_,rfl,by rw [← HN.out]; exact HV.out,HB1.out.trans (hb'.mono HS1.out)⟩
theorem BRow.size_le {w:World} {base g cap n:Nat} {zs:List Nat} {cs:Array Value} {fr:Nat × Nat} {t:TypeId} (h:BRow w base (.slice (some ⟨g,0,none⟩) n cap) zs) (k:w.heap[g]?=some (.cells cs t fr)) (hn:n=zs.length):zs.length≤cs.size:=by
 obtain ⟨_,_,h2⟩:=h
 rcases h2 with ⟨e,_⟩ | ⟨g',cap',cur,e,_,hh,hc,_,hcs,_⟩
 · cases e
 · injection e with e
   injection e with e
   injection e with e
   subst e
   rw [hh] at k
   injection k with k
   injection k with k
   subst k
   omega
theorem dd_len_words (n:Nat):(dd n).length≤32*(dig n).length:=by
 refine dd_len _ _ ?_
 have:=dig_lt n
 rw [p32] at this
 exact Nat.lt_of_lt_of_le this (Nat.pow_le_pow_left (by decide) _)
def Okt (n:Int):Prop:=(dig n.natAbs).length≤134217728
set_option maxRecDepth 100000 in
set_option maxHeartbeats 1600000 in
theorem String_any {w:World} {b o:Nat} {n:Int} (hx:IntAt w b o n) (hn:Okt n) :
  Calls Tryz.prog 236 #[.pointer (some ⟨b,o,none⟩)] w fun e w'=>e=.returned (.string (textN n))∧Below w.heap.size w w':=by
 obtain ⟨A,l,c,h0,h1,h2,hlt⟩:=hx.open_
 have hl:=h2.len.1
 obtain ⟨N,hN⟩:∃ N,N=n.natAbs:=⟨_,rfl⟩
 unfold Okt at hn
 rw [← hN] at h2 hl hn
 have HN:=Lib.hid hN
 have HO:=Lib.hid hn
 have HX:=Lib.hid hx
 rcases Nat.eq_zero_or_pos l with hz | hz
 · subst hz
   have hn0:N=0:=(dig_nil_iff _).1 (List.eq_nil_of_length_eq_zero hl.symm)
   have HT:Hid (textN n=⟨#[48]⟩):=by
    have:n=0:=by have:=HN.out; omega
    rw [this]; rfl
   clear hN h2 hl hn hn0 hx h0
   go_enter Tryz.func236,Tryz.ntmps236
   go_wp2
   go_ret
   exact ⟨by rw [HT.out]; rfl,Below.refl _ _⟩
 · have hNp:0<N:=by
    rcases Nat.eq_zero_or_pos N with h | h
    · rw [h,dig_zero] at hl; simp at hl; omega
    · exact h
   obtain ⟨s,hs⟩:∃ s,s=decide (n<0):=⟨_,rfl⟩
   rw [← hs] at h0
   have HSG:=Lib.hid hs
   have HNP:=Lib.hid hNp
   have hl00:((l:Int)==0)=false:=by rw [beq_eq_false_iff_ne]; omega
   have HW:=Lib.hid h2
   clear hN h2 hl hn hNp hs hx h0
   go_enter Tryz.func236,Tryz.ntmps236
   go_wp2
   go_loopg [3,4] N (fun k v x wr=>∃ (B:Option Addr) (lb cb R:Nat) (ds:List Nat),x=.slice B lb cb∧R≤k∧Hid (Words wr (.slice B lb cb) (dig R))∧Hid (BRow wr w.heap.size v ds)∧Hid (dd N=ds++dd R)∧Hid (Below w.heap.size w wr))
   case atStart=>exact ⟨A,l,c,N,[],rfl,Nat.le_refl _,HW.out,BRow.nil _ _,rfl,Below.refl _ _⟩
   case round =>
    obtain ⟨B,lb,cb,R,ds,rfl,hR,hRW,hrow,hdd,hb⟩:=hrel
    have hlb:=hRW.out.len.1
    have hlm:=hRW.out.2.1
    by_cases hlp:0<lb
    · have hRp:0<R:=by
       rcases Nat.eq_zero_or_pos R with h | h
       · rw [h,dig_zero] at hlb; simp at hlb; omega
       · exact h
      have HRP:=Lib.hid hRp
      have hlm2:lb≤17179869184:=by omega
      clear hlb hlm hRp
      go_wp2_with fail
      refine (short_dig hRW.out 1000000000 (by omega) (by omega)).mono ?_
      rintro e w1 ⟨v1,r0,rfl,hr,hrb,hq,hb1⟩
      obtain ⟨q,hqd⟩:∃ q,q=R/1000000000:=⟨_,rfl⟩
      rw [← hqd] at hq
      obtain ⟨A1,l1,c1,rfl⟩:=hq.form
      have HQ:=Lib.hid hq
      have HB1:=Lib.hid hb1
      have HQD:=Lib.hid hqd
      have hl1:=hq.len
      have hl1b:l1≤17179869184:=by have:=hq.2.1; omega
      have HL1:Hid (l1=0↔q=0):=by
       have:=dig_nil_iff q
       rw [Hid,hl1.1]
       exact List.length_eq_zero_iff.trans this
      clear hq hb1 hqd hl1
      go_wp2
      go_loopw [3,5,6] (fun v r k wr=>∃ (i R' r':Nat) (ds':List Nat),i≤9∧k=.int .i64 (i:Int)∧r=.int .u32 (r':Int)∧r'<1000000000∧Hid (r'<10^(9-i))∧Hid (R'=r'+10^(9-i)*q)∧Hid (dd N=ds'++dd R')∧Hid (BRow wr w.heap.size v ds')∧Hid (Words wr (.slice A1 l1 c1) (dig q))∧Hid (Below w.heap.size w wr)) (fun _ _ k _=>9-(intOf k).toNat)
      case atStart =>
       refine ⟨0,R,r0,ds,by omega,rfl,rfl,hrb,by rw [Hid,Nat.sub_zero]; exact hrb,?_,hdd,?_,HQ.out,?_⟩
       · rw [Hid,Nat.sub_zero,hr.out,HQD.out]; omega
       · exact hrow.out.on HB1.out
       · exact hb.out.trans (HB1.out.mono hb.out.size)
      case round =>
       obtain ⟨i,R',r',ds',hi,rfl,rfl,hr9,hrp,hRR,hdd',hrow',hQ',hb'⟩:=hrel
       have hdl:ds'.length≤4294967296:=by
        have h1:=dd_len_words N
        have h2:=HO.out
        have h3:=congrArg List.length hdd'.out
        rw [List.length_append] at h3
        omega
       by_cases hgo:i<9∧(0<r'∨0<l1)
       · obtain ⟨hi9,hor⟩:=hgo
         have hpq:0<r'∨0<q:=hor.imp id fun h=>by have:=HL1.out; omega
         obtain ⟨k1,k2⟩:=dd_step hdd'.out hRR.out hi9 hpq
         have K1:=Lib.hid k1
         have K2:=Lib.hid k2
         have K3:Hid (r'/10<10^(9-(i+1))):=by
          have h1:=hrp.out
          rw [show 9-i=(9-(i+1))+1 by omega,Nat.pow_succ] at h1
          exact Nat.div_lt_of_lt_mul (by rw [Nat.mul_comm]; exact h1)
         have hd0:(48:Int)+(r':Int) % 10=((48+r' % 10:Nat):Int):=by omega
         have hd1:48+r' % 10<256:=by omega
         obtain ⟨z,hz'⟩:∃ z,z=48+r' % 10:=⟨_,rfl⟩
         rw [← hz'] at hd0 hd1 K1
         have hbl:=Lib.hid hb'.out.size
         have hrowA:=Lib.hid hrow'
         clear k1 k2 hz' hpq
         have hstep:∀ (v':Value) (w':World),BRow w' w.heap.size v' (ds'++[z])→Below w.heap.size w w'→Words w' (.slice A1 l1 c1) (dig q)→True:=fun _ _ _ _ _=>trivial
         clear hstep
         rcases (by omega:0<r'∨(r'=0∧0<l1)) with hor | ⟨rfl,hor⟩
         all_goals
          go_wp2_with (at_builtin; refine wpList_append_byte rfl (.tmp 40) (.tmp 45) rfl w.heap.size _ ds' rfl (hrow'.out.alloc _) ⟨wr.heap.size,0,none⟩ 1 z _ rfl (cell_new0 _ _ _) ?_ hd1 ?_ ?_ ?_)
          · omega
          · omega
          · have:=hbl.out; simp; omega
          · intro v' w' hrow2 hb2 hws
            have HR2:=Lib.hid hrow2
            have HB3:=Lib.hid ((hb'.out.alloc hb'.out.size _).trans hb2)
            have HW2:=Lib.hid (hws _ _ (hQ'.out.below ((Below.refl _ _).alloc (Nat.le_refl _) _)))
            clear hrow2 hb2 hws
            go_wp2
            go_roundw
            case rel=>first | exact ⟨i+1,R'/10,r'/10,ds'++[z],by omega,by go_num,rfl,by omega,K3,K2,K1,HR2,HW2,HB3⟩ | exact ⟨i+1,R'/10,0,ds'++[z],by omega,by go_num,rfl,by omega,K3,K2,K1,HR2,HW2,HB3⟩
            case measure=>simp [intOf]; omega
       · have hend:r'=0∧R'=q∧(i=9∨(i<9∧l1=0)):=by
          have h1:=hrp.out
          have h2:=hRR.out
          have h3:=HL1.out
          rcases Nat.lt_or_ge i 9 with h | h
          · have:r'=0:=by omega
            have h5:l1=0:=by omega
            have h4:=h3.1 h5
            subst h4
            refine ⟨this,by rw [h2,this]; simp,.inr ⟨h,h5⟩⟩
          · obtain rfl:i=9:=by omega
            simp at h1 h2
            exact ⟨by omega,by omega,.inl rfl⟩
         obtain ⟨rfl,e2,hcase⟩:=hend
         have HE2:=Lib.hid e2
         have HQR:Hid (q<R):=by have:=HQD.out; have:=HRP.out; unfold Hid; omega
         clear hgo e2
         rcases hcase with rfl | ⟨h9,rfl⟩
         all_goals
          go_wp2
          go_roundg q
          case measure=>exact Nat.lt_of_lt_of_le HQR.out hR
          case rel=>exact ⟨A1,_,c1,q,ds',rfl,Nat.le_refl _,hQ',hrow',by rw [← HE2.out]; exact hdd',hb'⟩
    · obtain rfl:lb=0:=by omega
      have hR0:=(dig_nil_iff R).1 (List.eq_nil_of_length_eq_zero hlb.symm)
      subst hR0
      have hdd2:=hdd.out
      rw [dd_zero,List.append_nil] at hdd2
      have hbl:=Lib.hid hb.out.size
      have hx2:=HX.out.on hb.out
      obtain ⟨A2,l2,c2,h20,h21,h22,h2lt⟩:=hx2.open_
      rw [← HSG.out] at h20
      have hdl:ds.length≤4294967296:=by
       have h1:=dd_len_words N
       have h2:=HO.out
       rw [hdd2] at h1
       omega
      have hdp:0<ds.length:=by
       have:=HNP.out
       rw [← hdd2,dd_pos N this]
       simp
      have HDD:=Lib.hid hdd2
      clear hlb hlm hdd2 h21 h22 hx2
      cases s
      · obtain ⟨zs,hzs⟩:∃ zs,zs=ds:=⟨_,rfl⟩
        obtain ⟨len,hlen⟩:∃ len,len=ds.length:=⟨_,rfl⟩
        have HTXT:Hid (strN zs.reverse=textN n):=by
         have h1:¬ n<0:=by have:=HSG.out; simpa using this
         have h2:n≠0:=by have:=HNP.out; have:=HN.out; omega
         rw [Hid,textN,txt,if_neg h2,if_neg h1,List.append_nil,← HN.out,HDD.out,hzs]
        have HLEN:Hid (zs.length=len):=by rw [hzs,hlen]; rfl
        have HROW:=hrow
        rw [← hzs] at HROW
        have hlenp:0<len:=by omega
        have hlenb:len≤4294967297:=by omega
        have HBB:=hb
        clear hzs hlen hdp hdl hrow hb
        obtain ⟨g,cap,cs,rfl,hg,hcap,hh,hcs⟩:=HROW.out.open_ (by rw [HLEN.out]; omega)
        rw [HLEN.out]
        have hbb:BBuf wr g (turned zs 0):=by rw [turned_zero]; exact ⟨HROW.out.1,cs,hh,by have:=HROW.out.size_le hh rfl; exact this,hcs⟩
        clear hh hcs hcap
        go_wp2
        go_loopw [7,8] (fun i k wr=>∃ (j:Nat),j≤len∧i=.int .i64 (j:Int)∧k=.int .i64 ((len:Int)-1-(j:Int))∧BBuf wr g (turned zs j)∧Below w.heap.size w wr) (fun i _ _=>len-(intOf i).toNat)
        case atStart=>exact ⟨0,by omega,rfl,by go_num,hbb,HBB.out⟩
        case round =>
         obtain ⟨j,hj,rfl,rfl,hb',hbl⟩:=hrel
         have hsz:=hbl.size
         have hgl:=hb'.lt
         clear hbb
         by_cases hlt:(j:Int)<(len:Int)-1-(j:Int)
         · obtain ⟨m,hm⟩:∃ m,m=len-1-j:=⟨_,rfl⟩
           have hmi:(len:Int)-1-(j:Int)=(m:Int):=by omega
           obtain ⟨x,hx⟩:∃ x,x=zs.getD j 0:=⟨_,rfl⟩
           obtain ⟨y,hy⟩:∃ y,y=zs.getD m 0:=⟨_,rfl⟩
           have hjm:j<m:=by omega
           have hml:m<len:=by omega
           have hc1:=hb'.cell j (by rw [turned_len,HLEN.out]; omega)
           have hc2:=hb'.cell m (by rw [turned_len,HLEN.out]; omega)
           rw [turned_getD zs j j (Nat.le_refl _) (by rw [HLEN.out]; omega),← hx] at hc1
           rw [turned_getD zs j m (by omega) (by rw [HLEN.out]; omega),← hy] at hc2
           have hx8:x<256:=by rw [hx]; exact HROW.out.1.getD _
           have hy8:y<256:=by rw [hy]; exact HROW.out.1.getD _
           have hf1:=hb'.frozen j
           have hf2:=hb'.frozen m
           have hset:=(hb'.set j y _ hy8 rfl).set m x _ hx8 rfl
           have hset2:=(hb'.set m x _ hx8 rfl).set j y _ hy8 rfl
           have hts:=turned_step zs j m (by rw [HLEN.out]; omega) hjm
           rw [← hx,← hy] at hts
           have hts2:((turned zs j).set m x).set j y=turned zs (j+1):=by rw [List.set_comm _ _ (by omega)]; exact hts
           rw [hts] at hset
           rw [hts2] at hset2
           have HS:=Lib.hid hset
           have HS2:=Lib.hid hset2
           have HBL:=Lib.hid hbl
           have HM:=Lib.hid hm
           have hgg:w.heap.size≤g:=hg
           rw [hmi]
           clear hset hset2 hts hts2 hx hy hb' hbl hm hmi hlt
           go_wp2
           go_region
           go_wp2
           go_roundw
           case rel =>
            have hm:=HM.out
            refine ⟨j+1,by omega,by go_num,by go_num,?_,?_⟩
            · first | exact HS.out | exact HS2.out
            · exact Below.drew ((HBL.out.setCell hgg _).setCell hgg _)
           case measure=>simp [intOf]; omega
         · have ht:=turned_done zs j (by rw [HLEN.out]; omega)
           rw [ht] at hb'
           have hs:=fun cap=>string_of_byt (hb'.byt (n:=len) (cap:=cap) (by rw [List.length_reverse,HLEN.out]))
           rw [HTXT.out] at hs
           have HBL:=Lib.hid hbl
           clear ht hb' hbl
           go_wp2
           go_ret
           exact ⟨rfl,HBL.out⟩
      · go_wp2_with (at_builtin; refine wpList_append_byte rfl (.tmp 53) (.tmp 54) rfl w.heap.size _ ds rfl (hrow.out.alloc _) ⟨wr.heap.size,0,none⟩ 1 45 _ rfl (cell_new0 _ _ _) rfl (by omega) ?_ ?_ ?_)
        · omega
        · have:=hbl.out; simp; omega
        intro v' w' hrow2 hb2 hws
        obtain ⟨zs,hzs⟩:∃ zs,zs=ds++[45]:=⟨_,rfl⟩
        obtain ⟨len,hlen⟩:∃ len,len=ds.length+1:=⟨_,rfl⟩
        have HTXT:Hid (strN zs.reverse=textN n):=by
         have h1:n<0:=by have:=HSG.out; simpa using this.symm
         have h2:n≠0:=by omega
         rw [Hid,textN,txt,if_neg h2,if_pos h1,← HN.out,HDD.out,hzs]
        have HLEN:Hid (zs.length=len):=by rw [hzs,hlen]; simp [Hid]
        have HROW:=Lib.hid hrow2
        rw [← hzs] at HROW
        have hlenp:0<len:=by omega
        have hlenb:len≤4294967297:=by omega
        have HBB:=Lib.hid ((hb.out.alloc hb.out.size _).trans hb2)
        clear hzs hlen hdp hdl hrow hb hrow2 hb2 hws
        obtain ⟨g,cap,cs,rfl,hg,hcap,hh,hcs⟩:=HROW.out.open_ (by rw [HLEN.out]; omega)
        rw [HLEN.out]
        have hbb:BBuf w' g (turned zs 0):=by rw [turned_zero]; exact ⟨HROW.out.1,cs,hh,by have:=HROW.out.size_le hh rfl; exact this,hcs⟩
        clear hh hcs hcap
        go_wp2
        go_loopw [7,8] (fun i k wr=>∃ (j:Nat),j≤len∧i=.int .i64 (j:Int)∧k=.int .i64 ((len:Int)-1-(j:Int))∧BBuf wr g (turned zs j)∧Below w.heap.size w wr) (fun i _ _=>len-(intOf i).toNat)
        case atStart=>exact ⟨0,by omega,rfl,by go_num,hbb,HBB.out⟩
        case round =>
         obtain ⟨j,hj,rfl,rfl,hb',hbl⟩:=hrel
         have hsz:=hbl.size
         have hgl:=hb'.lt
         clear hbb
         by_cases hlt:(j:Int)<(len:Int)-1-(j:Int)
         · obtain ⟨m,hm⟩:∃ m,m=len-1-j:=⟨_,rfl⟩
           have hmi:(len:Int)-1-(j:Int)=(m:Int):=by omega
           obtain ⟨x,hx⟩:∃ x,x=zs.getD j 0:=⟨_,rfl⟩
           obtain ⟨y,hy⟩:∃ y,y=zs.getD m 0:=⟨_,rfl⟩
           have hjm:j<m:=by omega
           have hml:m<len:=by omega
           have hc1:=hb'.cell j (by rw [turned_len,HLEN.out]; omega)
           have hc2:=hb'.cell m (by rw [turned_len,HLEN.out]; omega)
           rw [turned_getD zs j j (Nat.le_refl _) (by rw [HLEN.out]; omega),← hx] at hc1
           rw [turned_getD zs j m (by omega) (by rw [HLEN.out]; omega),← hy] at hc2
           have hx8:x<256:=by rw [hx]; exact HROW.out.1.getD _
           have hy8:y<256:=by rw [hy]; exact HROW.out.1.getD _
           have hf1:=hb'.frozen j
           have hf2:=hb'.frozen m
           have hset:=(hb'.set j y _ hy8 rfl).set m x _ hx8 rfl
           have hset2:=(hb'.set m x _ hx8 rfl).set j y _ hy8 rfl
           have hts:=turned_step zs j m (by rw [HLEN.out]; omega) hjm
           rw [← hx,← hy] at hts
           have hts2:((turned zs j).set m x).set j y=turned zs (j+1):=by rw [List.set_comm _ _ (by omega)]; exact hts
           rw [hts] at hset
           rw [hts2] at hset2
           have HS:=Lib.hid hset
           have HS2:=Lib.hid hset2
           have HBL:=Lib.hid hbl
           have HM:=Lib.hid hm
           have hgg:w.heap.size≤g:=hg
           rw [hmi]
           clear hset hset2 hts hts2 hx hy hb' hbl hm hmi hlt
           go_wp2
           go_region
           go_wp2
           go_roundw
           case rel =>
            have hm:=HM.out
            refine ⟨j+1,by omega,by go_num,by go_num,?_,?_⟩
            · first | exact HS.out | exact HS2.out
            · exact Below.drew ((HBL.out.setCell hgg _).setCell hgg _)
           case measure=>simp [intOf]; omega
         · have ht:=turned_done zs j (by rw [HLEN.out]; omega)
           rw [ht] at hb'
           have hs:=fun cap=>string_of_byt (hb'.byt (n:=len) (cap:=cap) (by rw [List.length_reverse,HLEN.out]))
           rw [HTXT.out] at hs
           have HBL:=Lib.hid hbl
           clear ht hb' hbl
           go_wp2
           go_ret
           exact ⟨rfl,HBL.out⟩
theorem empty_data {s:ByteArray} (h:s.size=0):s=⟨#[]⟩:=by
 obtain ⟨d⟩:=s
 congr 1
 exact Array.eq_empty_of_size_eq_zero h
theorem toList_some {s:ByteArray} (h:s.size≠0):s.toList.isEmpty=false∧¬ s.toList=[]:=by
 have h2:¬ s.toList=[]:=by
  rw [ByteArray.toList_eq]
  intro e
  have e2:s.data.toList.length=0:=by rw [e]; rfl
  have e3:s.data.size=0:=by rw [← Array.length_toList]; exact e2
  exact h e3
 exact ⟨by cases hl:s.toList with
  | nil=>exact absurd hl h2
  | cons a r=>rfl,h2⟩
def head (s:ByteArray):Nat:=(leS s).getD (s.size-1) 0
theorem head_eq {s:ByteArray} (h:0<s.size):s[0].toNat=head s:=by
 unfold head
 rw [leS_getD s _ (by omega)]
 have e:s.size-1-(s.size-1)=0:=by omega
 simp only [e]
 rfl
def WholeOk (b:Bool) (s:ByteArray):Prop:=(s.size=0∧b=false∨s.size≠0∧head s≠0)∧s.size≤16384
set_option maxRecDepth 100000 in
theorem Check_any {w:World} (b:Bool) (s:ByteArray) (hs:s.size≤maxLen) :
  Calls Tryz.prog 231 #[.agg #[.bool b,.string s]] w fun e w'=>∃ k:Int,e=.returned (.int .i64 k)∧(k=0∧WholeOk b s∨k=2∧¬ WholeOk b s)∧Below w.heap.size w w':=by
 have hb:Hid (Below w.heap.size w (w.alloc (.cells #[.bool b,.string s] 23))):=(Below.refl _ _).alloc (Nat.le_refl _) _
 by_cases h0:s.size=0
 · obtain rfl:=empty_data h0
   clear h0 hs
   cases b
   · go_enter Tryz.func231,Tryz.ntmps231
     go_wp2
     go_ret
     exact ⟨0,rfl,.inl ⟨rfl,.inl ⟨rfl,rfl⟩,by decide⟩,hb.out⟩
   · go_enter Tryz.func231,Tryz.ntmps231
     go_wp2
     go_ret
     exact ⟨2,rfl,.inr ⟨rfl,fun h=>h.1.elim (fun k=>Bool.noConfusion k.2) (fun k=>k.1 rfl)⟩,hb.out⟩
 · obtain ⟨hE,hE2⟩:=toList_some h0
   have hp:0<s.size:=by omega
   obtain ⟨t,ht⟩:∃ t,t=head s:=⟨_,rfl⟩
   have ht2:s[0].toNat=t:=by rw [ht]; exact head_eq hp
   have HW:Hid (WholeOk b s↔t≠0∧s.size≤16384):=by
    unfold Hid WholeOk
    rw [ht]
    exact ⟨fun h=>⟨h.1.elim (fun k=>absurd k.1 h0) (fun k=>k.2),h.2⟩,fun h=>⟨.inr ⟨h0,h.1⟩,h.2⟩⟩
   have h00:(s.size:Int)≠0:=by omega
   clear ht
   by_cases hz:t=0
   · subst hz
     go_enter Tryz.func231,Tryz.ntmps231
     go_wp2
     go_ret
     exact ⟨2,rfl,.inr ⟨rfl,fun h=>(HW.out.1 h).1 rfl⟩,hb.out⟩
   · have hz1:((t:Int)==0)=false:=by rw [beq_eq_false_iff_ne]; omega
     by_cases hl:s.size≤16384
     · go_enter Tryz.func231,Tryz.ntmps231
       go_wp2
       go_ret
       exact ⟨0,rfl,.inl ⟨rfl,HW.out.2 ⟨hz,hl⟩⟩,hb.out⟩
     · have hl2:(16384:Int)<(s.size:Int):=by omega
       go_enter Tryz.func231,Tryz.ntmps231
       go_wp2
       go_ret
       exact ⟨2,rfl,.inr ⟨rfl,fun h=>hl (HW.out.1 h).2⟩,hb.out⟩
def numOf (b:Bool) (s:ByteArray):Int:=sg b (num s)
theorem head_lean {b:Bool} {s:ByteArray} (h:WholeOk b s):Plain1 s:=by
 rcases h.1 with h1 | h1
 · exact .inl h1.1
 · exact .inr h1.2
theorem numOf_ok {b:Bool} {s:ByteArray} (h:WholeOk b s):decide (numOf b s<0)=b∧mag (numOf b s).natAbs=s∧(numOf b s).natAbs=num s:=by
 have h1:=mag_num (head_lean h)
 have h2:s.size≠0→num s≠0:=by
  intro k e
  rw [e,mag_zero] at h1
  rw [← h1] at k
  exact k rfl
 have h3:(numOf b s).natAbs=num s:=by unfold numOf sg; cases b<;>simp
 refine ⟨?_,by rw [h3,h1],h3⟩
 rcases h.1 with h4 | h4
 · have:num s=0:=by have:=num_lt s; rw [h4.1] at this; omega
   rw [h4.2]
   unfold numOf sg
   simp [this]
 · have:=h2 h4.1
   unfold numOf sg
   cases b
   · simp
   · simp; omega
theorem ok_wholeV (n:Int) (h:(mag n.natAbs).size≤16384):WholeOk (decide (n<0)) (mag n.natAbs):=by
 refine ⟨?_,h⟩
 rcases mag_lean n.natAbs with k | k
 · refine .inl ⟨k,?_⟩
   rw [mag_size] at k
   have:=(led_nil_iff _).1 (List.eq_nil_of_length_eq_zero k)
   simp; omega
 · by_cases h0:(mag n.natAbs).size=0
   · refine .inl ⟨h0,?_⟩
     rw [mag_size] at h0
     have:=(led_nil_iff _).1 (List.eq_nil_of_length_eq_zero h0)
     simp; omega
   · exact .inr ⟨h0,k⟩
theorem numOf_mag (n:Int):numOf (decide (n<0)) (mag n.natAbs)=n:=by
 unfold numOf
 rw [num_mag,sg_of]
set_option maxRecDepth 100000 in
theorem WSign_any {w:World} (b:Bool) (s:ByteArray) (hs:s.size≤maxLen) :
  Calls Tryz.prog 233 #[.agg #[.bool b,.string s]] w fun e w'=>∃ k:Int,e=.returned (.int .i64 k)∧(WholeOk b s∧k=(numOf b s).sign∨¬ WholeOk b s∧k=0)∧Below w.heap.size w w':=by
 have hb:Below w.heap.size w (w.alloc (.cells #[.bool b,.string s] 23)):=(Below.refl _ _).alloc (Nat.le_refl _) _
 have HB:=Lib.hid hb
 have HS:=Lib.hid hs
 have HX:=Lib.hid (BoxAt.new w #[.bool b,.string s] 23)
 clear hb hs
 by_cases ho:WholeOk b s
 · have HO:=Lib.hid ho
   by_cases h0:s.size=0
   · obtain rfl:=empty_data h0
     have hb0:b=false:=ho.1.elim (fun h=>h.2) (fun h=>absurd rfl h.1)
     subst hb0
     clear ho h0
     go_enter Tryz.func233,Tryz.ntmps233
     go_wp2_with fail
     refine (Check_any false ⟨#[]⟩ HS.out).mono ?_
     rintro e w1 ⟨k,rfl,hk,h1⟩
     obtain rfl:k=0:=hk.elim (fun h=>h.1) (fun h=>absurd HO.out h.2)
     have hc0:=(HX.out.on h1).cell 0 _ rfl
     have hc1:=(HX.out.on h1).cell 1 _ rfl
     have HB1:=Lib.hid (HB.out.trans (h1.mono HB.out.size))
     clear hk h1
     go_wp2
     go_ret
     exact ⟨0,rfl,.inl ⟨HO.out,rfl⟩,HB1.out⟩
   · obtain ⟨hE,hE2⟩:=toList_some h0
     have hn:=numOf_ok ho
     have hnz:num s≠0:=by
      intro e
      have:=mag_num (head_lean ho)
      rw [e,mag_zero] at this
      rw [← this] at h0
      exact h0 rfl
     have HN:=Lib.hid hn
     have HNZ:=Lib.hid hnz
     clear ho h0 hn hnz
     cases b
     all_goals
      go_enter Tryz.func233,Tryz.ntmps233
      go_wp2_with fail
      refine (Check_any _ s HS.out).mono ?_
      rintro e w1 ⟨k,rfl,hk,h1⟩
      obtain rfl:k=0:=hk.elim (fun h=>h.1) (fun h=>absurd HO.out h.2)
      have hc0:=(HX.out.on h1).cell 0 _ rfl
      have hc1:=(HX.out.on h1).cell 1 _ rfl
      have HB1:=Lib.hid (HB.out.trans (h1.mono HB.out.size))
      clear hk h1
      go_wp2
      go_ret
     · refine ⟨1,rfl,.inl ⟨HO.out,?_⟩,HB1.out⟩
       obtain ⟨h1,h2,h3⟩:=HN.out
       have:=HNZ.out
       rw [Int.sign_eq_one_of_pos]
       simp at h1
       omega
     · refine ⟨-1,rfl,.inl ⟨HO.out,?_⟩,HB1.out⟩
       obtain ⟨h1,h2,h3⟩:=HN.out
       rw [Int.sign_eq_neg_one_of_neg]
       simpa using h1
 · have HO:=Lib.hid ho
   clear ho
   go_enter Tryz.func233,Tryz.ntmps233
   go_wp2_with fail
   refine (Check_any _ s HS.out).mono ?_
   rintro e w1 ⟨k,rfl,hk,h1⟩
   obtain rfl:k=2:=hk.elim (fun h=>absurd h.2 HO.out) (fun h=>h.1)
   have HB1:=Lib.hid (HB.out.trans (h1.mono HB.out.size))
   clear hk h1
   go_wp2
   go_ret
   exact ⟨0,rfl,.inr ⟨HO.out,rfl⟩,HB1.out⟩
theorem size_alloc (w:World) (o:Obj):(w.alloc o).heap.size=w.heap.size+1:=by simp
theorem byt_row {W:World} (s:ByteArray) (c cap n:Nat) (fr:Nat × Nat) (hn:n=W.heap.size):Byt ((W.alloc (.cells (bytesRow s c) 5 fr)).drew) (.slice (some ⟨n,0,none⟩) s.size cap) (leS s).reverse:=by
 subst hn
 have hl:(leS s).reverse.length=s.size:=by rw [List.length_reverse,leS_len]
 refine ⟨(B8_leS s).reverse,W.heap.size,cap,bytesRow s c,5,fr,by rw [hl],?_,?_⟩
 · exact heap_alloc_new W _
 · intro i hi
   rw [hl] at hi
   have hd:i<s.data.size:=hi
   rw [bytesRow_at s _ i hd,leS,List.reverse_reverse,getD_in (by rw [List.length_map]; exact hd),List.getElem_map]
   rfl
theorem IntAt.new_at {w:World} {n:Nat} (hn:n=w.heap.size):IntAt (w.alloc (.cells #[.bool false,.slice none 0 0] 177)) n 0 0:=hn▸IntAt.new w
theorem below_row (W:World) (c:Array Value) (t:TypeId) (fr:Nat × Nat):Below W.heap.size W ((W.alloc (.cells c t fr)).drew):=((Below.refl _ _).alloc (Nat.le_refl _) _).drew
theorem below_new (W:World) (o:Obj):Below W.heap.size W (W.alloc o):=(Below.refl _ _).alloc (Nat.le_refl _) _
set_option maxRecDepth 100000 in
theorem number_any {w:World} (b:Bool) (s:ByteArray) (hs:s.size≤4294967296) :
  Calls Tryz.prog 321 #[.agg #[.bool b,.string s]] w fun e w'=>∃ g,e=.returned (.pointer (some ⟨g,0,none⟩))∧w.heap.size≤g∧IntAt w' g 0 (numOf b s)∧Below w.heap.size w w':=by
 have hcv:=fun (w:World)=>run_bytes_of_string (P:=Tryz.prog) w 9 57 5 s Tryz.underlying9 Tryz.underlying57 Tryz.underlying5
 have HS:=Lib.hid hs
 have HB:=Lib.hid (below_new w (.cells #[.bool b,.string s] 23))
 have HX:=Lib.hid (BoxAt.new w #[.bool b,.string s] 23)
 clear hs
 go_enter Tryz.func321,Tryz.ntmps321
 go_wp2_with fail
 generalize hW2:(w.alloc (.cells #[.bool b,.string s] 23)).alloc (.cells #[.bool false,.slice none 0 0] 177)=W2
 have hi:IntAt W2 (w.heap.size+1) 0 0:=by rw [← hW2]; exact IntAt.new_at (size_alloc _ _).symm
 have hx:BoxAt W2 w.heap.size #[.bool b,.string s] 23:=by rw [← hW2]; exact HX.out.on (below_new _ _)
 have hb:Below w.heap.size w W2:=by rw [← hW2]; exact HB.out.trans ((below_new _ _).mono (by simp))
 have hsz:w.heap.size+1+1=W2.heap.size:=by rw [← hW2]; simp
 have hby:=byt_row (W:=W2) s (grownCap W2 s.size 0 5) (grownCap W2 s.size 0 5) (w.heap.size+1+1) ((bytesRow s (grownCap W2 s.size 0 5)).size,(bytesRow s (grownCap W2 s.size 0 5)).size+1) hsz
 have hbl:=below_row W2 (bytesRow s (grownCap W2 s.size 0 5)) 5 ((bytesRow s (grownCap W2 s.size 0 5)).size,(bytesRow s (grownCap W2 s.size 0 5)).size+1)
 clear hW2
 generalize grownCap W2 s.size 0 5=c at hby hbl ⊢
 generalize (W2.alloc (.cells (bytesRow s c) 5 ((bytesRow s c).size,(bytesRow s c).size+1))).drew=W3 at hby hbl ⊢
 refine (SetBytes_any (hi.on hbl).slot hby HS.out).mono ?_
 rintro e w1 ⟨rfl,h1,h2⟩
 rw [List.reverse_reverse] at h1
 have HX1:=Lib.hid (hx.on hbl)
 have HB1:=Lib.hid (hb.trans (hbl.mono hb.size))
 have HI:=Lib.hid h1
 have HT:=Lib.hid (h2.below (B:=w.heap.size+1) (Nat.le_refl _) (by have:=hbl.size; omega))
 have hc0:w1.cell? ⟨w.heap.size,0,none⟩=some (.bool b):=by rw [HT.out.cell (by simp)]; exact HX1.out.cell 0 _ rfl
 have hc1:w1.cell? ⟨w.heap.size,1,none⟩=some (.string s):=by rw [HT.out.cell (by simp)]; exact HX1.out.cell 1 _ rfl
 have HBB:=Lib.hid (HB1.out.trans (HT.out.mono (by omega)))
 clear h1 h2 hi hx hb hsz hby hbl
 cases b
 · go_wp2
   go_ret
   refine ⟨_,rfl,by omega,?_,HBB.out⟩
   have:=HI.out
   simpa [numOf,sg,num] using this
 · go_wp2_with fail
   refine (neg_any HI.out.slot HI.out).mono ?_
   rintro e w2 ⟨rfl,h1,h2⟩
   have H1:=Lib.hid h1
   have H2:=Lib.hid (HBB.out.trans (h2.below (by omega) HBB.out.size))
   clear h1 h2 hc0 hc1
   go_wp2
   go_ret
   refine ⟨_,rfl,by omega,?_,H2.out⟩
   have:=H1.out
   simpa [numOf,sg,num] using this
set_option maxRecDepth 100000 in
theorem back_any {w:World} {b o:Nat} {n:Int} (hx:IntAt w b o n) (hn:Okn n) :
  Calls Tryz.prog 106 #[.pointer (some ⟨b,o,none⟩)] w fun e w'=>e=.returned (wholeV n)∧Below w.heap.size w w':=by
 have HB:=Lib.hid (below_new w (.cells #[.bool false,.string ⟨#[]⟩] 23))
 have hx1:=hx.on HB.out
 have HX:=Lib.hid hx1
 have HN:=Lib.hid hn
 have HC:=Lib.hid (BoxAt.new w #[.bool false,.string ⟨#[]⟩] 23)
 obtain ⟨s,hs⟩:∃ s,s=decide (n<0):=⟨_,rfl⟩
 have hsg:decide (n.sign<0)=s:=by
  rw [hs]
  refine decide_eq_decide.2 ?_
  exact Int.sign_neg_iff
 have HSG:=Lib.hid hs
 clear hx hx1 hn hs
 go_enter Tryz.func106,Tryz.ntmps106
 go_wp2_with fail
 refine (sign_any HX.out).mono ?_
 rintro e w1 ⟨rfl,rfl⟩
 go_wp2_with fail
 refine (Bytes_any HX.out HN.out).mono ?_
 rintro e w2 ⟨v,rfl,hby,hb⟩
 obtain ⟨h,m,cap,rfl⟩:=hby.form
 have hcv:=string_of_byt hby
 have hc0:=(HC.out.on hb).cell 0 _ rfl
 have hc1:=(HC.out.on hb).cell 1 _ rfl
 have hf:=(HC.out.on hb).frozen
 have HK:=Lib.hid (((HC.out.on hb).set 0 (.bool (decide (n<0)))).set 1 (.string (strN (led n.natAbs).reverse)))
 have HB2:=Lib.hid (HB.out.trans (hb.mono HB.out.size))
 clear hby hb
 go_wp2
 have h0:=HK.out.cell 0 (.bool (decide (n<0))) rfl
 have h1:=HK.out.cell 1 (.string (strN (led n.natAbs).reverse)) rfl
 exact bodyPost_ret (v:=wholeV n) (by simp [results,Tryz.results106,go_sem,h0,h1,wholeV,mag]) rfl ⟨rfl,(HB2.out.setCell (Nat.le_refl _) _).setCell (Nat.le_refl _) _⟩
def RatAt (w:World) (b o:Nat) (q:Rat):Prop :=
 Slot w b o 4∧IntAt w b o q.num∧∃ d:Int,IntAt w b (o+2) d∧(d=q.den∨d=0∧q.den=1)
theorem RatAt.slot {w:World} {b o:Nat} {q:Rat} (h:RatAt w b o q):Slot w b o 4:=h.1
theorem RatAt.lt {w:World} {b o:Nat} {q:Rat} (h:RatAt w b o q):b<w.heap.size:=h.1.lt
theorem RatAt.on {w w':World} {b o:Nat} {q:Rat} (h:RatAt w b o q) (k:Below w.heap.size w w'):RatAt w' b o q:=by
 obtain ⟨h1,h2,d,h3,h4⟩:=h
 exact ⟨h1.on k,h2.on k,d,h3.on k,h4⟩
theorem RatAt.new (w:World):RatAt (w.alloc (.cells #[.bool false,.slice none 0 0,.bool false,.slice none 0 0] 179)) w.heap.size 0 0:=by
 have hb:=heap_alloc_new w (.cells #[.bool false,.slice none 0 0,.bool false,.slice none 0 0] 179)
 refine ⟨⟨_,_,hb,by decide,by simp⟩,⟨⟨_,_,hb,by decide,by simp⟩,?_,.slice none 0 0,?_,?_⟩,0,⟨⟨_,_,hb,by decide,by simp⟩,?_,.slice none 0 0,?_,?_⟩,.inr ⟨rfl,rfl⟩⟩
 · rw [cell_of_row _ _ _ _ _ _ hb]; rfl
 · rw [cell_of_row _ _ _ _ _ _ hb]; rfl
 · rw [show (0:Rat).num=0 from rfl,Int.natAbs_zero,dig_zero]; exact Words.nil _
 · rw [cell_of_row _ _ _ _ _ _ hb]; rfl
 · rw [cell_of_row _ _ _ _ _ _ hb]; rfl
 · rw [Int.natAbs_zero,dig_zero]; exact Words.nil _
theorem setFrac_of (n m:Int) (h0:m≠0) (g:Int) (hg:g=if m<0 then -(Int.gcd n m:Int) else (Int.gcd n m:Int)):g≠0∧n.tdiv g=(Rat.divInt n m).num∧m.tdiv g=(Rat.divInt n m).den:=by
 have hgp:0<Int.gcd n m:=Int.gcd_pos_of_ne_zero_right _ h0
 obtain ⟨k,hk⟩:=Int.gcd_dvd_left n m
 obtain ⟨l,hl⟩:=Int.gcd_dvd_right n m
 rw [Rat.num_divInt,Rat.den_divInt,if_neg h0,Int.gcd_comm m n]
 generalize Int.gcd n m=c at *
 have hc:(c:Int)≠0:=by omega
 by_cases h:m<0
 · rw [if_pos h] at hg
   subst hg
   refine ⟨by omega,?_,?_⟩
   · rw [Int.sign_eq_neg_one_of_neg h,hk,Int.tdiv_neg,Int.mul_tdiv_cancel_left _ hc,Int.neg_mul,Int.one_mul,← Int.mul_neg,Int.mul_ediv_cancel_left _ hc]
   · rw [hl,Int.tdiv_neg,Int.mul_tdiv_cancel_left _ hc,Int.natAbs_mul,Int.natAbs_natCast,Nat.mul_div_cancel_left _ hgp]
     have:l<0:=by
      rcases Int.lt_or_le l 0 with h1 | h1
      · exact h1
      · have:=Int.mul_nonneg (Int.natCast_nonneg c) h1; omega
     omega
 · rw [if_neg h] at hg
   subst hg
   refine ⟨hc,?_,?_⟩
   · rw [Int.sign_eq_one_of_pos (by omega),hk,Int.mul_tdiv_cancel_left _ hc,Int.one_mul,Int.mul_ediv_cancel_left _ hc]
   · rw [hl,Int.mul_tdiv_cancel_left _ hc,Int.natAbs_mul,Int.natAbs_natCast,Nat.mul_div_cancel_left _ hgp]
     have:0≤l:=by
      rcases Int.lt_or_le l 0 with h1 | h1
      · have:=Int.mul_neg_of_pos_of_neg (show 0<(c:Int) by omega) h1; omega
      · exact h1
     omega
theorem den_any {w:World} {b o:Nat} {q:Rat} (hx:RatAt w b o q) :
  Calls Tryz.prog 270 #[.pointer (some ⟨b,o,none⟩)] w fun e w'=>∃ g i,e=.returned (.pointer (some ⟨g,i,none⟩))∧IntAt w' g i q.den∧Below w.heap.size w w'∧(g=b∨w.heap.size≤g):=by
 obtain ⟨hs,hn,d,hd,hq⟩:=hx
 obtain ⟨A,la,ca,hd0,hd1,hdv,hlt⟩:=hd.open_
 have hl:=hdv.len.1
 have hb:=hdv.2.1
 have HD:=Lib.hid hd
 have HQ:=Lib.hid hq
 clear hs hn hdv hd0 hd
 by_cases h0:d=0
 · subst h0
   rw [Int.natAbs_zero,dig_zero] at hl
   obtain rfl:la=0:=hl
   have hq1:((q.den:Nat):Int)=1:=by have:=q.den_pos; omega
   rw [hq1]
   clear hb hq hq1
   go_enter Tryz.func270,Tryz.ntmps270
   go_wp2_with fail
   refine (NewInt_any (by omega)).mono ?_
   rintro e w1 ⟨b1,rfl,h0,h1,h2⟩
   have H0:=Lib.hid h0
   have H1:=Lib.hid h1
   have H2:=Lib.hid h2
   clear h1 h2 h0
   go_wp2
   go_ret
   exact ⟨_,_,rfl,H1.out,H2.out,.inr H0.out⟩
 · have hl0:0<la:=by
    rcases Nat.eq_zero_or_pos la with h | h
    · rw [h] at hl
      have:=(dig_nil_iff d.natAbs).1 (List.eq_nil_of_length_eq_zero hl.symm)
      omega
    · exact h
   have hlb:la≤17179869184:=by omega
   have hq1:d=q.den:=by omega
   have H1:Hid (IntAt w b (o+2) q.den):=by rw [← hq1]; exact HD.out
   have hne:((la:Int)==0)=false:=by rw [beq_eq_false_iff_ne]; omega
   clear hl hb hq hq1 HQ HD h0
   go_enter Tryz.func270,Tryz.ntmps270
   go_wp2
   go_ret
   exact ⟨_,_,rfl,H1.out,Below.refl _ _,.inl rfl⟩
theorem ratAt_set {w:World} {b o:Nat} {q:Rat} {s1 s2:Bool} {v1 v2:Value} (hs:Slot w b o 4) (h1:Words w v1 (dig q.num.natAbs)) (h2:Words w v2 (dig (q.den:Int).natAbs)) (e1:decide (q.num<0)=s1) (e2:decide ((q.den:Int)<0)=s2) :
  RatAt ((((w.setCell ⟨b,o,none⟩ (.bool s1)).setCell ⟨b,o+1,none⟩ v1).setCell ⟨b,o+2,none⟩ (.bool s2)).setCell ⟨b,o+2+1,none⟩ v2) b o q ∧
  Touch w ((((w.setCell ⟨b,o,none⟩ (.bool s1)).setCell ⟨b,o+1,none⟩ v1).setCell ⟨b,o+2,none⟩ (.bool s2)).setCell ⟨b,o+2+1,none⟩ v2) b o 4:=by
 have ht:Touch w ((((w.setCell ⟨b,o,none⟩ (.bool s1)).setCell ⟨b,o+1,none⟩ v1).setCell ⟨b,o+2,none⟩ (.bool s2)).setCell ⟨b,o+2+1,none⟩ v2) b o 4 :=
  ((((Touch.refl w b o 4).set_ o (by omega) _).set_ (o+1) (by omega) _).set_ (o+2) (by omega) _).set_ (o+2+1) (by omega) _
 obtain ⟨cs,t,k1,k2,k3⟩:=id hs
 have hb:((((w.setCell ⟨b,o,none⟩ (.bool s1)).setCell ⟨b,o+1,none⟩ v1).setCell ⟨b,o+2,none⟩ (.bool s2)).setCell ⟨b,o+2+1,none⟩ v2).heap[b]?=some (.cells ((((cs.setIfInBounds o (.bool s1)).setIfInBounds (o+1) v1).setIfInBounds (o+2) (.bool s2)).setIfInBounds (o+2+1) v2) t (0,0)):=by
  simp [World.setCell,Array.getElem?_modify,k1]
 have hsl:=hs.touch ht
 have hw1:=h1.touch hs ht
 have hw2:=h2.touch hs ht
 refine ⟨⟨hsl,⟨hsl.part (by omega),?_,v1,?_,hw1⟩,q.den,⟨hsl.part (by omega),?_,v2,?_,hw2⟩,.inl rfl⟩,ht⟩
 · rw [cell_of_row _ _ _ _ _ _ hb,Array.getElem?_setIfInBounds_ne (by omega),Array.getElem?_setIfInBounds_ne (by omega),Array.getElem?_setIfInBounds_ne (by omega),Array.getElem?_setIfInBounds_self_of_lt (by omega),e1]
 · rw [cell_of_row _ _ _ _ _ _ hb,Array.getElem?_setIfInBounds_ne (by omega),Array.getElem?_setIfInBounds_ne (by omega),Array.getElem?_setIfInBounds_self_of_lt (by simp; omega)]
 · rw [cell_of_row _ _ _ _ _ _ hb,Array.getElem?_setIfInBounds_ne (by omega),Array.getElem?_setIfInBounds_self_of_lt (by simp; omega),e2]
 · rw [cell_of_row _ _ _ _ _ _ hb,Array.getElem?_setIfInBounds_self_of_lt (by simp; omega)]
set_option maxHeartbeats 1600000 in
theorem SetFrac_any {w:World} {b o c p d q:Nat} {n m:Int} (hz:Slot w b o 4) (hx:IntAt w c p n) (hy:IntAt w d q m) (h0:m≠0) (hn:Okn n) (hm:Okn m) :
  Calls Tryz.prog 223 #[.pointer (some ⟨b,o,none⟩),.pointer (some ⟨c,p,none⟩),.pointer (some ⟨d,q,none⟩)] w fun e w'=>e=.returned (.pointer (some ⟨b,o,none⟩))∧RatAt w' b o (Rat.divInt n m)∧Touch w w' b o 4:=by
 have HX:=Lib.hid hx
 have HY:=Lib.hid hy
 have HZ:=Lib.hid hz
 have HN:=Lib.hid hn
 have HM:=Lib.hid hm
 have H0:=Lib.hid h0
 clear hx hy hz hn hm h0
 go_enter Tryz.func223,Tryz.ntmps223
 go_wp2_with fail
 have ha:Below w.heap.size w (w.alloc (.cells #[.bool false,.slice none 0 0] 177)):=(Below.refl _ _).alloc (Nat.le_refl _) _
 refine (gcd_any (IntAt.new w).slot (HX.out.on ha) (HY.out.on ha) HN.out HM.out).mono ?_
 rintro e w1 ⟨rfl,h1,h2⟩
 have hb1:=ha.trans (h2.below (Nat.le_refl _) ha.size)
 have HX1:=Lib.hid (HX.out.on hb1)
 have HY1:=Lib.hid (HY.out.on hb1)
 have HZ1:=Lib.hid (HZ.out.on hb1)
 have HB1:=Lib.hid hb1
 have HG1:=Lib.hid h1
 have HBZ:Hid (w.heap.size≠b):=by have:=HZ.out.lt; unfold Hid; omega
 obtain ⟨B,lb,cb,hd0,_,_,hlt⟩:=HY1.out.open_
 have HGZ:Hid (Slot w1 w.heap.size 0 2):=h1.slot
 obtain ⟨G,hG⟩:∃ G:Int,G=if m<0 then -(Int.gcd n m:Int) else (Int.gcd n m:Int):=⟨_,rfl⟩
 obtain ⟨hg0,hgn,hgd⟩:=setFrac_of n m H0.out G hG
 have HG0:=Lib.hid hg0
 have HGN:=Lib.hid hgn
 have HGD:=Lib.hid hgd
 have HGV:=Lib.hid hG
 clear h1 h2 ha hb1 hg0 hgn hgd hG
 go_upto_if 17 with (fail)
 go_cut [] from 17 to 20 (fun wc=>Hid (IntAt wc w.heap.size 0 G)∧Hid (Below w.heap.size w wc))
 case first =>
  by_cases k:m<0
  · have kd:decide (m<0)=true:=by simpa using k
    rw [kd] at hd0
    have HE:Hid (-(Int.gcd n m:Int)=G):=by have:=HGV.out; rw [if_pos k] at this; exact this.symm
    go_wp2_with fail
    refine (neg_any HGZ.out HG1.out).mono ?_
    rintro e w2 ⟨rfl,h1,h2⟩
    rw [HE.out] at h1
    have H1:=Lib.hid h1
    have HB2:=Lib.hid (HB1.out.trans (h2.below (Nat.le_refl _) HB1.out.size))
    clear h1 h2
    go_wp2_with fail
    go_meet
    exact ⟨H1.out,HB2.out⟩
  · have kd:decide (m<0)=false:=by simpa using k
    rw [kd] at hd0
    have HE:Hid ((Int.gcd n m:Int)=G):=by have:=HGV.out; rw [if_neg k] at this; exact this.symm
    have H1:Hid (IntAt w1 w.heap.size 0 G):=by rw [← HE.out]; exact HG1.out
    go_wp2_with fail
    go_meet
    exact ⟨H1.out,HB1.out⟩
 case rest =>
  obtain ⟨HGG,HBB⟩:=hcut
  have ha:Below wc.heap.size wc (wc.alloc (.cells #[.bool false,.slice none 0 0] 177)):=(Below.refl _ _).alloc (Nat.le_refl _) _
  go_wp2_with fail
  refine (Quo_any (IntAt.new wc).slot ((HX.out.on HBB.out).on ha) (HGG.out.on ha) HG0.out HN.out).mono ?_
  rintro e w3 ⟨rfl,h1,h2⟩
  rw [HGN.out] at h1
  have hb3:=ha.trans (h2.below (Nat.le_refl _) ha.size)
  have HB3:=Lib.hid hb3
  have HN3:=Lib.hid h1
  clear h1 h2 ha hb3
  have ha:Below w3.heap.size w3 (w3.alloc (.cells #[.bool false,.slice none 0 0] 177)):=(Below.refl _ _).alloc (Nat.le_refl _) _
  go_wp2_with fail
  refine (Quo_any (IntAt.new w3).slot (((HY.out.on HBB.out).on HB3.out).on ha) ((HGG.out.on HB3.out).on ha) HG0.out HM.out).mono ?_
  rintro e w4 ⟨rfl,h1,h2⟩
  rw [HGD.out] at h1
  have hb4:=ha.trans (h2.below (Nat.le_refl _) ha.size)
  have HN4:=Lib.hid (HN3.out.on hb4)
  have HD4:=Lib.hid h1
  have HZ4:Hid (Slot w4 b o 4):=((HZ.out.on HBB.out).on HB3.out).on hb4
  have HB4:Hid (Below w.heap.size w w4):=HBB.out.trans ((HB3.out.mono HBB.out.size).trans (hb4.mono (Nat.le_trans HBB.out.size HB3.out.size)))
  have HNE:Hid (wc.heap.size≠b∧w3.heap.size≠b):=by
   have h3:=HZ.out.lt
   have h4:=HBB.out.size
   have h5:=HB3.out.size
   constructor<;>omega
  clear h1 h2 ha hb4 HN3 HX1 HY1 HZ1 HB1 HG1 HGZ HGG HX HY HZ hd0 hlt
  revert HNE HN4 HD4
  clear HBB HB3
  generalize wc.heap.size=g1
  generalize w3.heap.size=g2
  intro HN4 HD4 HNE
  obtain ⟨A1,l1,c1,hn0,hn1,hnv,hnl⟩:=HN4.out.open_
  obtain ⟨A2,l2,c2,hd0,hd1,hdv,hdl⟩:=HD4.out.open_
  have HW1:=Lib.hid hnv
  have HW2:=Lib.hid hdv
  clear hnv hdv
  rw [Nat.zero_add] at hn1 hd1
  generalize hs1:decide ((Rat.divInt n m).num<0)=s1 at hn0
  generalize hs2:decide (((Rat.divInt n m).den:Int)<0)=s2 at hd0
  have HS1:=Lib.hid hs1
  have HS2:=Lib.hid hs2
  clear hs1 hs2
  obtain ⟨v0,hv0⟩:=HZ4.out.cell o (by omega)
  obtain ⟨v1,hv1⟩:=HZ4.out.cell (o+1) (by omega)
  obtain ⟨v2,hv2⟩:=HZ4.out.cell (o+2) (by omega)
  obtain ⟨v3,hv3⟩:=HZ4.out.cell (o+2+1) (by omega)
  have hf:∀ i,w4.frozen? ⟨b,i,none⟩=false:=fun i=>HZ4.out.frozen i
  have hg1:=HNE.out.1
  have hg2:=HNE.out.2
  go_wp2
  go_region
  obtain ⟨hr,ht⟩:=ratAt_set HZ4.out HW1.out HW2.out HS1.out HS2.out
  have HRA:=Lib.hid hr
  have HTO:=Lib.hid ht
  clear hr ht
  go_wp2
  go_ret
  exact ⟨rfl,HRA.out.on (Below.refl _ _).drew,(((Touch.of_below HB4.out b o 4).trans HTO.out)).drew⟩
def blk (v:Value):Option Nat:=match v with
 | .pointer (some a)=>some a.block
 | _=>none
structure GC (base:Nat) (w0:World) (ow:List Nat) (γ:Gh) (w:World):Prop where
 below:Below base w0 w
 size:base≤w.heap.size
 lt:∀ i∈ow,∀ v g,γ i=some v→blk v=some g→g<w.heap.size
 apart:∀ i∈ow,∀ j∈ow,i≠j→∀ v u g,γ i=some v→γ j=some u→blk v=some g→blk u=some g→g<base
structure GE (base:Nat) (wr:List (Nat × Nat)) (γ:Gh) (w w':World):Prop where
 int:∀ g o n,IntAt w g o n→(∃ p∈wr,∃ v,γ p.1=some v∧blk v=some g∧γ p.2=none∧base≤g)∨IntAt w' g o n
 slot:∀ g o n,Slot w g o n→Slot w' g o n
theorem GC.start {base:Nat} {w0:World} (ow:List Nat) (hb:base≤w0.heap.size):GC base w0 ow gh0 w0.drew :=
 ⟨(Below.refl _ _).drew,hb,(fun _ _ _ _ h=>nomatch h),(fun _ _ _ _ _ _ _ _ h=>nomatch h)⟩
theorem upd_some {γ:Gh} {k i:Nat} {x v:Value} (h:γ i=some v) (hk:γ k=none):γ.upd k x i=some v:=by
 rw [Gh.upd_ne γ x (fun e=>by rw [e,hk] at h; cases h)]
 exact h
theorem GC.step {base:Nat} {w0 w w':World} {ow:List Nat} {γ:Gh} (h:GC base w0 ow γ w) (k:Nat) (x:Value) (hk:ow.contains k=false) (hb:Below base w w'):GC base w0 ow (γ.upd k x) w':=by
 have hne:∀ i∈ow,i≠k:=fun i hi e=>by subst e; rw [List.contains_iff_mem.2 hi] at hk; cases hk
 refine ⟨h.below.trans hb,Nat.le_trans h.size hb.size,fun i hi v g h1 h2=>?_,fun i hi j hj hij v u g h1 h2=>?_⟩
 · rw [Gh.upd_ne γ x (hne i hi)] at h1
   exact Nat.lt_of_lt_of_le (h.lt i hi v g h1 h2) hb.size
 · rw [Gh.upd_ne γ x (hne i hi)] at h1
   rw [Gh.upd_ne γ x (hne j hj)] at h2
   exact h.apart i hi j hj hij v u g h1 h2
theorem GC.own {base:Nat} {w0 w w':World} {ow:List Nat} {γ:Gh} (h:GC base w0 ow γ w) (k:Nat) (g o:Nat) (hb:Below w.heap.size w w') (hg:g<w'.heap.size) (hn:g<base∨w.heap.size≤g) :
  GC base w0 ow (γ.upd k (.pointer (some ⟨g,o,none⟩))) w':=by
 refine ⟨h.below.trans (hb.mono h.size),Nat.le_trans h.size hb.size,fun i hi v j h1 h2=>?_,fun i hi j hj hij v u c h1 h2 h3 h4=>?_⟩
 · by_cases e:i=k
   · subst e
     rw [Gh.upd_self] at h1
     cases h1
     cases h2
     exact hg
   · rw [Gh.upd_ne γ _ e] at h1
     exact Nat.lt_of_lt_of_le (h.lt i hi v j h1 h2) hb.size
 · by_cases e:i=k
   · subst e
     rw [Gh.upd_self] at h1
     rw [Gh.upd_ne γ _ (Ne.symm hij)] at h2
     cases h1
     cases h3
     have:=h.lt j hj u _ h2 h4
     simp only at this ⊢
     omega
   · rw [Gh.upd_ne γ _ e] at h1
     by_cases e2:j=k
     · subst e2
       rw [Gh.upd_self] at h2
       cases h2
       cases h4
       have:=h.lt i hi v _ h1 h3
       simp only at this ⊢
       omega
     · rw [Gh.upd_ne γ _ e2] at h2
       exact h.apart i hi j hj hij v u c h1 h2 h3 h4
theorem GE.below {base:Nat} {w w':World} (wr:List (Nat × Nat)) (γ:Gh) (h:Below w.heap.size w w'):GE base wr γ w w' :=
 ⟨fun _ _ _ k=>.inr (k.on h),fun _ _ _ k=>k.on h⟩
theorem GE.refl (base:Nat) (w:World) (wr:List (Nat × Nat)) (γ:Gh):GE base wr γ w w:=GE.below wr γ (Below.refl _ _)
theorem GE.write {base:Nat} {w w':World} {wr:List (Nat × Nat)} {γ:Gh} {g n:Nat} (a k:Nat) (hp:wr.contains (a,k)=true) (hs:Slot w g 0 n) (ht:Touch w w' g 0 n) (ha:γ a=some (.pointer (some ⟨g,0,none⟩))) (hk:γ k=none) (hb:base≤g):GE base wr γ w w':=by
 refine ⟨fun c o x hx=>?_,fun _ _ _ k=>k.touch ht⟩
 by_cases e:c=g
 · subst e
   exact .inl ⟨(a,k),List.contains_iff_mem.1 hp,_,ha,rfl,hk,hb⟩
 · exact .inr (hx.touch hs ht (.inl e))
def VA (base:Nat) (w:World) (v:Value):Prop:=∃ g,v=.pointer (some ⟨g,0,none⟩)∧base≤g∧Slot w g 0 2
def VD (n:Int) (w:World) (v:Value):Prop:=∃ g i,v=.pointer (some ⟨g,i,none⟩)∧IntAt w g i n
def VM (base a:Nat) (n:Int) (γ:Gh) (w:World) (v:Value):Prop:=∃ g,v=.pointer (some ⟨g,0,none⟩)∧γ a=some (.pointer (some ⟨g,0,none⟩))∧base≤g∧IntAt w g 0 n
theorem VA.stable {base:Nat} {wr:List (Nat × Nat)} {γ:Gh} {w w':World} {v:Value} (h:VA base w v) (hE:GE base wr γ w w'):VA base w' v:=by
 obtain ⟨g,h1,h2,h3⟩:=h
 exact ⟨g,h1,h2,hE.slot _ _ _ h3⟩
theorem VD.stable {base:Nat} {w0:World} {ow:List Nat} {wr:List (Nat × Nat)} {γ:Gh} {w w':World} {v:Value} {n:Int} (i:Nat) (h:VD n w v) (hC:GC base w0 ow γ w) (hE:GE base wr γ w w') (hi:γ i=some v) (hb:(ow.contains i&&wr.all fun p=>ow.contains p.1&&p.1 != i)=true):VD n w' v:=by
 obtain ⟨g,o,rfl,h2⟩:=h
 rw [Bool.and_eq_true] at hb
 rcases hE.int _ _ _ h2 with ⟨p,hp,u,k1,k2,_,k4⟩ | k
 · have h3:=List.all_eq_true.1 hb.2 p hp
   rw [Bool.and_eq_true,bne_iff_ne] at h3
   have:=hC.apart i (List.contains_iff_mem.1 hb.1) p.1 (List.contains_iff_mem.1 h3.1) (Ne.symm h3.2) _ _ g hi k1 rfl k2
   omega
 · exact ⟨g,o,rfl,k⟩
theorem VM.stable {base a:Nat} {w0:World} {ow:List Nat} {wr:List (Nat × Nat)} {γ:Gh} {w w':World} {v x:Value} {n:Int} (i k:Nat) (h:VM base a n γ w v) (hC:GC base w0 ow γ w) (hE:GE base wr γ w w') (hk:γ k=none) (hi:γ i=some v) (hb:(ow.contains a&&wr.all fun p=>ow.contains p.1&&(p.1 != a||p.2==i))=true):VM base a n (γ.upd k x) w' v:=by
 obtain ⟨g,rfl,h1,h2,h3⟩:=h
 rw [Bool.and_eq_true] at hb
 rcases hE.int _ _ _ h3 with ⟨p,hp,u,k1,k2,k3,k4⟩ | k5
 · have h4:=List.all_eq_true.1 hb.2 p hp
   rw [Bool.and_eq_true,Bool.or_eq_true,bne_iff_ne,beq_iff_eq] at h4
   by_cases e:p.1=a
   · have:p.2=i:=by rcases h4.2 with h5 | h5; exact absurd e h5; exact h5
     rw [this,hi] at k3
     cases k3
   · have:=hC.apart a (List.contains_iff_mem.1 hb.1) p.1 (List.contains_iff_mem.1 h4.1) (Ne.symm e) _ _ g h1 k1 rfl k2
     omega
 · exact ⟨g,rfl,upd_some h1 hk,h2,k5⟩
end Go.Proofs.YthkpghhoffihmaaGreatDoor
end
