/- Rat, RegH, RatB. -/
import Derived.Test.YtmfedaakeeiolaaGreatTk7
set_option linter.unnecessarySimpa false
set_option linter.unusedVariables false
set_option linter.unusedSimpArgs false
section
namespace Go.Proofs.YtmfedaakeeiolaaGreat
open Go.RowKit
def RatAt (w:World) (b o:Nat) (q:Rat):Prop :=
 Slot w b o 4∧IntAt w b o q.num∧∃ d:Int,IntAt w b (o+2) d∧(d=q.den∨d=0∧q.den=1)
theorem RatAt.slot {w:World} {b o:Nat} {q:Rat} (h:RatAt w b o q):Slot w b o 4:=h.1
theorem RatAt.lt {w:World} {b o:Nat} {q:Rat} (h:RatAt w b o q):b<w.heap.size:=h.1.lt
theorem RatAt.on {w w':World} {b o:Nat} {q:Rat} (h:RatAt w b o q) (k:Below w.heap.size w w'):RatAt w' b o q:=by
 obtain ⟨h1,h2,d,h3,h4⟩:=h
 exact ⟨h1.on k,h2.on k,d,h3.on k,h4⟩
theorem RatAt.new (w:World):RatAt (w.alloc (.cells #[.bool false,.slice none 0 0,.bool false,.slice none 0 0] 213)) w.heap.size 0 0:=by
 have hb:=heap_alloc_new w (.cells #[.bool false,.slice none 0 0,.bool false,.slice none 0 0] 213)
 refine ⟨⟨_,_,hb,by decide,by simp⟩,⟨⟨_,_,hb,by decide,by simp⟩,?_,.slice none 0 0,?_,?_⟩,0,⟨⟨_,_,hb,by decide,by simp⟩,?_,.slice none 0 0,?_,?_⟩,.inr ⟨rfl,rfl⟩⟩
 · rw [cell_of_row _ _ _ _ _ _ hb]; rfl
 · rw [cell_of_row _ _ _ _ _ _ hb]; rfl
 · rw [show (0:Rat).num=0 from rfl,Int.natAbs_zero,dig_zero]; exact Words.nil _
 · rw [cell_of_row _ _ _ _ _ _ hb]; rfl
 · rw [cell_of_row _ _ _ _ _ _ hb]; rfl
 · rw [Int.natAbs_zero,dig_zero]; exact Words.nil _
theorem setFrac_of (n m:Int) (h0:m≠0) (g:Int) (hg:g=if m<0 then -(Int.gcd n m:Int) else (Int.gcd n m:Int)):g≠0∧n.tdiv g=(Rat.divInt n m).num∧m.tdiv g=(Rat.divInt n m).den:=by
 have hgp:0<Int.gcd n m:=Int.gcd_pos_of_ne_zero_right _ h0
 obtain ⟨k,hk⟩:=Int.gcd_dvd_left n m
 obtain ⟨l,hl⟩:=Int.gcd_dvd_right n m
 rw [Rat.num_divInt,Rat.den_divInt,if_neg h0,Int.gcd_comm m n]
 generalize Int.gcd n m=c at *
 have hc:(c:Int)≠0:=by omega
 by_cases h:m<0
 · rw [if_pos h] at hg
   subst hg
   refine ⟨by omega,?_,?_⟩
   · rw [Int.sign_eq_neg_one_of_neg h,hk,Int.tdiv_neg,Int.mul_tdiv_cancel_left _ hc,Int.neg_mul,Int.one_mul,← Int.mul_neg,Int.mul_ediv_cancel_left _ hc]
   · rw [hl,Int.tdiv_neg,Int.mul_tdiv_cancel_left _ hc,Int.natAbs_mul,Int.natAbs_natCast,Nat.mul_div_cancel_left _ hgp]
     have:l<0:=by
      rcases Int.lt_or_le l 0 with h1 | h1
      · exact h1
      · have:=Int.mul_nonneg (Int.natCast_nonneg c) h1; omega
     omega
 · rw [if_neg h] at hg
   subst hg
   refine ⟨hc,?_,?_⟩
   · rw [Int.sign_eq_one_of_pos (by omega),hk,Int.mul_tdiv_cancel_left _ hc,Int.one_mul,Int.mul_ediv_cancel_left _ hc]
   · rw [hl,Int.mul_tdiv_cancel_left _ hc,Int.natAbs_mul,Int.natAbs_natCast,Nat.mul_div_cancel_left _ hgp]
     have:0≤l:=by
      rcases Int.lt_or_le l 0 with h1 | h1
      · have:=Int.mul_neg_of_pos_of_neg (show 0<(c:Int) by omega) h1; omega
      · exact h1
     omega
theorem den_any {w:World} {b o:Nat} {q:Rat} (hx:RatAt w b o q) :
  Calls Tryz.prog 285 #[.pointer (some ⟨b,o,none⟩)] w fun e w'=>∃ g i,e=.returned (.pointer (some ⟨g,i,none⟩))∧IntAt w' g i q.den∧Below w.heap.size w w'∧(g=b∨w.heap.size≤g):=by
 obtain ⟨hs,hn,d,hd,hq⟩:=hx
 obtain ⟨A,la,ca,hd0,hd1,hdv,hlt⟩:=hd.open_
 have hl:=hdv.len.1
 have hb:=hdv.2.1
 have HD:=Lib.hid hd
 have HQ:=Lib.hid hq
 clear hs hn hdv hd0 hd
 by_cases h0:d=0
 · subst h0
   rw [Int.natAbs_zero,dig_zero] at hl
   obtain rfl:la=0:=hl
   have hq1:((q.den:Nat):Int)=1:=by have:=q.den_pos; omega
   rw [hq1]
   clear hb hq hq1
   go_enter Tryz.func285,Tryz.ntmps285
   go_wp2_with fail
   refine (NewInt_any (by omega)).mono ?_
   rintro e w1 ⟨b1,rfl,h0,h1,h2⟩
   have H0:=Lib.hid h0
   have H1:=Lib.hid h1
   have H2:=Lib.hid h2
   clear h1 h2 h0
   go_wp2
   go_ret
   exact ⟨_,_,rfl,H1.out,H2.out,.inr H0.out⟩
 · have hl0:0<la:=by
    rcases Nat.eq_zero_or_pos la with h | h
    · rw [h] at hl
      have:=(dig_nil_iff d.natAbs).1 (List.eq_nil_of_length_eq_zero hl.symm)
      omega
    · exact h
   have hlb:la≤17179869184:=by omega
   have hq1:d=q.den:=by omega
   have H1:Hid (IntAt w b (o+2) q.den):=by rw [← hq1]; exact HD.out
   have hne:((la:Int)==0)=false:=by rw [beq_eq_false_iff_ne]; omega
   clear hl hb hq hq1 HQ HD h0
   go_enter Tryz.func285,Tryz.ntmps285
   go_wp2
   go_ret
   exact ⟨_,_,rfl,H1.out,Below.refl _ _,.inl rfl⟩
theorem ratAt_set {w:World} {b o:Nat} {q:Rat} {s1 s2:Bool} {v1 v2:Value} (hs:Slot w b o 4) (h1:Words w v1 (dig q.num.natAbs)) (h2:Words w v2 (dig (q.den:Int).natAbs)) (e1:decide (q.num<0)=s1) (e2:decide ((q.den:Int)<0)=s2) :
  RatAt ((((w.setCell ⟨b,o,none⟩ (.bool s1)).setCell ⟨b,o+1,none⟩ v1).setCell ⟨b,o+2,none⟩ (.bool s2)).setCell ⟨b,o+2+1,none⟩ v2) b o q ∧
  Touch w ((((w.setCell ⟨b,o,none⟩ (.bool s1)).setCell ⟨b,o+1,none⟩ v1).setCell ⟨b,o+2,none⟩ (.bool s2)).setCell ⟨b,o+2+1,none⟩ v2) b o 4:=by
 have ht:Touch w ((((w.setCell ⟨b,o,none⟩ (.bool s1)).setCell ⟨b,o+1,none⟩ v1).setCell ⟨b,o+2,none⟩ (.bool s2)).setCell ⟨b,o+2+1,none⟩ v2) b o 4 :=
  ((((Touch.refl w b o 4).set_ o (by omega) _).set_ (o+1) (by omega) _).set_ (o+2) (by omega) _).set_ (o+2+1) (by omega) _
 obtain ⟨cs,t,k1,k2,k3⟩:=id hs
 have hb:((((w.setCell ⟨b,o,none⟩ (.bool s1)).setCell ⟨b,o+1,none⟩ v1).setCell ⟨b,o+2,none⟩ (.bool s2)).setCell ⟨b,o+2+1,none⟩ v2).heap[b]?=some (.cells ((((cs.setIfInBounds o (.bool s1)).setIfInBounds (o+1) v1).setIfInBounds (o+2) (.bool s2)).setIfInBounds (o+2+1) v2) t (0,0)):=by
  simp [World.setCell,Array.getElem?_modify,k1]
 have hsl:=hs.touch ht
 have hw1:=h1.touch hs ht
 have hw2:=h2.touch hs ht
 refine ⟨⟨hsl,⟨hsl.part (by omega),?_,v1,?_,hw1⟩,q.den,⟨hsl.part (by omega),?_,v2,?_,hw2⟩,.inl rfl⟩,ht⟩
 · rw [cell_of_row _ _ _ _ _ _ hb,Array.getElem?_setIfInBounds_ne (by omega),Array.getElem?_setIfInBounds_ne (by omega),Array.getElem?_setIfInBounds_ne (by omega),Array.getElem?_setIfInBounds_self_of_lt (by omega),e1]
 · rw [cell_of_row _ _ _ _ _ _ hb,Array.getElem?_setIfInBounds_ne (by omega),Array.getElem?_setIfInBounds_ne (by omega),Array.getElem?_setIfInBounds_self_of_lt (by simp; omega)]
 · rw [cell_of_row _ _ _ _ _ _ hb,Array.getElem?_setIfInBounds_ne (by omega),Array.getElem?_setIfInBounds_self_of_lt (by simp; omega),e2]
 · rw [cell_of_row _ _ _ _ _ _ hb,Array.getElem?_setIfInBounds_self_of_lt (by simp; omega)]
set_option maxHeartbeats 1600000 in
theorem SetFrac_any {w:World} {b o c p d q:Nat} {n m:Int} (hz:Slot w b o 4) (hx:IntAt w c p n) (hy:IntAt w d q m) (h0:m≠0) (hn:Okn n) (hm:Okn m) :
  Calls Tryz.prog 236 #[.pointer (some ⟨b,o,none⟩),.pointer (some ⟨c,p,none⟩),.pointer (some ⟨d,q,none⟩)] w fun e w'=>e=.returned (.pointer (some ⟨b,o,none⟩))∧RatAt w' b o (Rat.divInt n m)∧Touch w w' b o 4:=by
 have HX:=Lib.hid hx
 have HY:=Lib.hid hy
 have HZ:=Lib.hid hz
 have HN:=Lib.hid hn
 have HM:=Lib.hid hm
 have H0:=Lib.hid h0
 clear hx hy hz hn hm h0
 go_enter Tryz.func236,Tryz.ntmps236
 go_wp2_with fail
 have ha:Below w.heap.size w (w.alloc (.cells #[.bool false,.slice none 0 0] 211)):=(Below.refl _ _).alloc (Nat.le_refl _) _
 refine (gcd_any (IntAt.new w).slot (HX.out.on ha) (HY.out.on ha) HN.out HM.out).mono ?_
 rintro e w1 ⟨rfl,h1,h2⟩
 have hb1:=ha.trans (h2.below (Nat.le_refl _) ha.size)
 have HX1:=Lib.hid (HX.out.on hb1)
 have HY1:=Lib.hid (HY.out.on hb1)
 have HZ1:=Lib.hid (HZ.out.on hb1)
 have HB1:=Lib.hid hb1
 have HG1:=Lib.hid h1
 have HBZ:Hid (w.heap.size≠b):=by have:=HZ.out.lt; unfold Hid; omega
 obtain ⟨B,lb,cb,hd0,_,_,hlt⟩:=HY1.out.open_
 have HGZ:Hid (Slot w1 w.heap.size 0 2):=h1.slot
 obtain ⟨G,hG⟩:∃ G:Int,G=if m<0 then -(Int.gcd n m:Int) else (Int.gcd n m:Int):=⟨_,rfl⟩
 obtain ⟨hg0,hgn,hgd⟩:=setFrac_of n m H0.out G hG
 have HG0:=Lib.hid hg0
 have HGN:=Lib.hid hgn
 have HGD:=Lib.hid hgd
 have HGV:=Lib.hid hG
 clear h1 h2 ha hb1 hg0 hgn hgd hG
 go_upto_if 17 with (fail)
 go_cut [] from 17 to 20 (fun wc=>Hid (IntAt wc w.heap.size 0 G)∧Hid (Below w.heap.size w wc))
 case first =>
  by_cases k:m<0
  · have kd:decide (m<0)=true:=by simpa using k
    rw [kd] at hd0
    have HE:Hid (-(Int.gcd n m:Int)=G):=by have:=HGV.out; rw [if_pos k] at this; exact this.symm
    go_wp2_with fail
    refine (neg_any HGZ.out HG1.out).mono ?_
    rintro e w2 ⟨rfl,h1,h2⟩
    rw [HE.out] at h1
    have H1:=Lib.hid h1
    have HB2:=Lib.hid (HB1.out.trans (h2.below (Nat.le_refl _) HB1.out.size))
    clear h1 h2
    go_wp2_with fail
    go_meet
    exact ⟨H1.out,HB2.out⟩
  · have kd:decide (m<0)=false:=by simpa using k
    rw [kd] at hd0
    have HE:Hid ((Int.gcd n m:Int)=G):=by have:=HGV.out; rw [if_neg k] at this; exact this.symm
    have H1:Hid (IntAt w1 w.heap.size 0 G):=by rw [← HE.out]; exact HG1.out
    go_wp2_with fail
    go_meet
    exact ⟨H1.out,HB1.out⟩
 case rest =>
  obtain ⟨HGG,HBB⟩:=hcut
  have ha:Below wc.heap.size wc (wc.alloc (.cells #[.bool false,.slice none 0 0] 211)):=(Below.refl _ _).alloc (Nat.le_refl _) _
  go_wp2_with fail
  refine (Quo_any (IntAt.new wc).slot ((HX.out.on HBB.out).on ha) (HGG.out.on ha) HG0.out HN.out).mono ?_
  rintro e w3 ⟨rfl,h1,h2⟩
  rw [HGN.out] at h1
  have hb3:=ha.trans (h2.below (Nat.le_refl _) ha.size)
  have HB3:=Lib.hid hb3
  have HN3:=Lib.hid h1
  clear h1 h2 ha hb3
  have ha:Below w3.heap.size w3 (w3.alloc (.cells #[.bool false,.slice none 0 0] 211)):=(Below.refl _ _).alloc (Nat.le_refl _) _
  go_wp2_with fail
  refine (Quo_any (IntAt.new w3).slot (((HY.out.on HBB.out).on HB3.out).on ha) ((HGG.out.on HB3.out).on ha) HG0.out HM.out).mono ?_
  rintro e w4 ⟨rfl,h1,h2⟩
  rw [HGD.out] at h1
  have hb4:=ha.trans (h2.below (Nat.le_refl _) ha.size)
  have HN4:=Lib.hid (HN3.out.on hb4)
  have HD4:=Lib.hid h1
  have HZ4:Hid (Slot w4 b o 4):=((HZ.out.on HBB.out).on HB3.out).on hb4
  have HB4:Hid (Below w.heap.size w w4):=HBB.out.trans ((HB3.out.mono HBB.out.size).trans (hb4.mono (Nat.le_trans HBB.out.size HB3.out.size)))
  have HNE:Hid (wc.heap.size≠b∧w3.heap.size≠b):=by
   have h3:=HZ.out.lt
   have h4:=HBB.out.size
   have h5:=HB3.out.size
   constructor<;>omega
  clear h1 h2 ha hb4 HN3 HX1 HY1 HZ1 HB1 HG1 HGZ HGG HX HY HZ hd0 hlt
  revert HNE HN4 HD4
  clear HBB HB3
  generalize wc.heap.size=g1
  generalize w3.heap.size=g2
  intro HN4 HD4 HNE
  obtain ⟨A1,l1,c1,hn0,hn1,hnv,hnl⟩:=HN4.out.open_
  obtain ⟨A2,l2,c2,hd0,hd1,hdv,hdl⟩:=HD4.out.open_
  have HW1:=Lib.hid hnv
  have HW2:=Lib.hid hdv
  clear hnv hdv
  rw [Nat.zero_add] at hn1 hd1
  generalize hs1:decide ((Rat.divInt n m).num<0)=s1 at hn0
  generalize hs2:decide (((Rat.divInt n m).den:Int)<0)=s2 at hd0
  have HS1:=Lib.hid hs1
  have HS2:=Lib.hid hs2
  clear hs1 hs2
  obtain ⟨v0,hv0⟩:=HZ4.out.cell o (by omega)
  obtain ⟨v1,hv1⟩:=HZ4.out.cell (o+1) (by omega)
  obtain ⟨v2,hv2⟩:=HZ4.out.cell (o+2) (by omega)
  obtain ⟨v3,hv3⟩:=HZ4.out.cell (o+2+1) (by omega)
  have hf:∀ i,w4.frozen? ⟨b,i,none⟩=false:=fun i=>HZ4.out.frozen i
  have hg1:=HNE.out.1
  have hg2:=HNE.out.2
  go_wp2
  go_region
  obtain ⟨hr,ht⟩:=ratAt_set HZ4.out HW1.out HW2.out HS1.out HS2.out
  have HRA:=Lib.hid hr
  have HTO:=Lib.hid ht
  clear hr ht
  go_wp2
  go_ret
  exact ⟨rfl,HRA.out.on (Below.refl _ _).drew,(((Touch.of_below HB4.out b o 4).trans HTO.out)).drew⟩
def blk (v:Value):Option Nat:=match v with
 | .pointer (some a)=>some a.block
 | _=>none
structure GC (base:Nat) (w0:World) (ow:List Nat) (γ:Gh) (w:World):Prop where
 below:Below base w0 w
 size:base≤w.heap.size
 lt:∀ i∈ow,∀ v g,γ i=some v→blk v=some g→g<w.heap.size
 apart:∀ i∈ow,∀ j∈ow,i≠j→∀ v u g,γ i=some v→γ j=some u→blk v=some g→blk u=some g→g<base
structure GE (base:Nat) (wr:List (Nat × Nat)) (γ:Gh) (w w':World):Prop where
 int:∀ g o n,IntAt w g o n→(∃ p∈wr,∃ v,γ p.1=some v∧blk v=some g∧γ p.2=none∧base≤g)∨IntAt w' g o n
 slot:∀ g o n,Slot w g o n→Slot w' g o n
theorem GC.start {base:Nat} {w0:World} (ow:List Nat) (hb:base≤w0.heap.size):GC base w0 ow gh0 w0.drew :=
 ⟨(Below.refl _ _).drew,hb,(fun _ _ _ _ h=>nomatch h),(fun _ _ _ _ _ _ _ _ h=>nomatch h)⟩
theorem upd_some {γ:Gh} {k i:Nat} {x v:Value} (h:γ i=some v) (hk:γ k=none):γ.upd k x i=some v:=by
 rw [Gh.upd_ne γ x (fun e=>by rw [e,hk] at h; cases h)]
 exact h
theorem GC.step {base:Nat} {w0 w w':World} {ow:List Nat} {γ:Gh} (h:GC base w0 ow γ w) (k:Nat) (x:Value) (hk:ow.contains k=false) (hb:Below base w w'):GC base w0 ow (γ.upd k x) w':=by
 have hne:∀ i∈ow,i≠k:=fun i hi e=>by subst e; rw [List.contains_iff_mem.2 hi] at hk; cases hk
 refine ⟨h.below.trans hb,Nat.le_trans h.size hb.size,fun i hi v g h1 h2=>?_,fun i hi j hj hij v u g h1 h2=>?_⟩
 · rw [Gh.upd_ne γ x (hne i hi)] at h1
   exact Nat.lt_of_lt_of_le (h.lt i hi v g h1 h2) hb.size
 · rw [Gh.upd_ne γ x (hne i hi)] at h1
   rw [Gh.upd_ne γ x (hne j hj)] at h2
   exact h.apart i hi j hj hij v u g h1 h2
theorem GC.own {base:Nat} {w0 w w':World} {ow:List Nat} {γ:Gh} (h:GC base w0 ow γ w) (k:Nat) (g o:Nat) (hb:Below w.heap.size w w') (hg:g<w'.heap.size) (hn:g<base∨w.heap.size≤g) :
  GC base w0 ow (γ.upd k (.pointer (some ⟨g,o,none⟩))) w':=by
 refine ⟨h.below.trans (hb.mono h.size),Nat.le_trans h.size hb.size,fun i hi v j h1 h2=>?_,fun i hi j hj hij v u c h1 h2 h3 h4=>?_⟩
 · by_cases e:i=k
   · subst e
     rw [Gh.upd_self] at h1
     cases h1
     cases h2
     exact hg
   · rw [Gh.upd_ne γ _ e] at h1
     exact Nat.lt_of_lt_of_le (h.lt i hi v j h1 h2) hb.size
 · by_cases e:i=k
   · subst e
     rw [Gh.upd_self] at h1
     rw [Gh.upd_ne γ _ (Ne.symm hij)] at h2
     cases h1
     cases h3
     have:=h.lt j hj u _ h2 h4
     simp only at this ⊢
     omega
   · rw [Gh.upd_ne γ _ e] at h1
     by_cases e2:j=k
     · subst e2
       rw [Gh.upd_self] at h2
       cases h2
       cases h4
       have:=h.lt i hi v _ h1 h3
       simp only at this ⊢
       omega
     · rw [Gh.upd_ne γ _ e2] at h2
       exact h.apart i hi j hj hij v u c h1 h2 h3 h4
theorem GE.below {base:Nat} {w w':World} (wr:List (Nat × Nat)) (γ:Gh) (h:Below w.heap.size w w'):GE base wr γ w w' :=
 ⟨fun _ _ _ k=>.inr (k.on h),fun _ _ _ k=>k.on h⟩
theorem GE.refl (base:Nat) (w:World) (wr:List (Nat × Nat)) (γ:Gh):GE base wr γ w w:=GE.below wr γ (Below.refl _ _)
theorem GE.write {base:Nat} {w w':World} {wr:List (Nat × Nat)} {γ:Gh} {g n:Nat} (a k:Nat) (hp:wr.contains (a,k)=true) (hs:Slot w g 0 n) (ht:Touch w w' g 0 n) (ha:γ a=some (.pointer (some ⟨g,0,none⟩))) (hk:γ k=none) (hb:base≤g):GE base wr γ w w':=by
 refine ⟨fun c o x hx=>?_,fun _ _ _ k=>k.touch ht⟩
 by_cases e:c=g
 · subst e
   exact .inl ⟨(a,k),List.contains_iff_mem.1 hp,_,ha,rfl,hk,hb⟩
 · exact .inr (hx.touch hs ht (.inl e))
def VA (base:Nat) (w:World) (v:Value):Prop:=∃ g,v=.pointer (some ⟨g,0,none⟩)∧base≤g∧Slot w g 0 2
def VD (n:Int) (w:World) (v:Value):Prop:=∃ g i,v=.pointer (some ⟨g,i,none⟩)∧IntAt w g i n
def VM (base a:Nat) (n:Int) (γ:Gh) (w:World) (v:Value):Prop:=∃ g,v=.pointer (some ⟨g,0,none⟩)∧γ a=some (.pointer (some ⟨g,0,none⟩))∧base≤g∧IntAt w g 0 n
theorem VA.stable {base:Nat} {wr:List (Nat × Nat)} {γ:Gh} {w w':World} {v:Value} (h:VA base w v) (hE:GE base wr γ w w'):VA base w' v:=by
 obtain ⟨g,h1,h2,h3⟩:=h
 exact ⟨g,h1,h2,hE.slot _ _ _ h3⟩
theorem VD.stable {base:Nat} {w0:World} {ow:List Nat} {wr:List (Nat × Nat)} {γ:Gh} {w w':World} {v:Value} {n:Int} (i:Nat) (h:VD n w v) (hC:GC base w0 ow γ w) (hE:GE base wr γ w w') (hi:γ i=some v) (hb:(ow.contains i&&wr.all fun p=>ow.contains p.1&&p.1 != i)=true):VD n w' v:=by
 obtain ⟨g,o,rfl,h2⟩:=h
 rw [Bool.and_eq_true] at hb
 rcases hE.int _ _ _ h2 with ⟨p,hp,u,k1,k2,_,k4⟩ | k
 · have h3:=List.all_eq_true.1 hb.2 p hp
   rw [Bool.and_eq_true,bne_iff_ne] at h3
   have:=hC.apart i (List.contains_iff_mem.1 hb.1) p.1 (List.contains_iff_mem.1 h3.1) (Ne.symm h3.2) _ _ g hi k1 rfl k2
   omega
 · exact ⟨g,o,rfl,k⟩
theorem VM.stable {base a:Nat} {w0:World} {ow:List Nat} {wr:List (Nat × Nat)} {γ:Gh} {w w':World} {v x:Value} {n:Int} (i k:Nat) (h:VM base a n γ w v) (hC:GC base w0 ow γ w) (hE:GE base wr γ w w') (hk:γ k=none) (hi:γ i=some v) (hb:(ow.contains a&&wr.all fun p=>ow.contains p.1&&(p.1 != a||p.2==i))=true):VM base a n (γ.upd k x) w' v:=by
 obtain ⟨g,rfl,h1,h2,h3⟩:=h
 rw [Bool.and_eq_true] at hb
 rcases hE.int _ _ _ h3 with ⟨p,hp,u,k1,k2,k3,k4⟩ | k5
 · have h4:=List.all_eq_true.1 hb.2 p hp
   rw [Bool.and_eq_true,Bool.or_eq_true,bne_iff_ne,beq_iff_eq] at h4
   by_cases e:p.1=a
   · have:p.2=i:=by rcases h4.2 with h5 | h5; exact absurd e h5; exact h5
     rw [this,hi] at k3
     cases k3
   · have:=hC.apart a (List.contains_iff_mem.1 hb.1) p.1 (List.contains_iff_mem.1 h4.1) (Ne.symm e) _ _ g h1 k1 rfl k2
     omega
 · exact ⟨g,rfl,upd_some h1 hk,h2,k5⟩
def wl (n:Int):Nat:=(dig n.natAbs).length
theorem wl_mul (n m:Int):wl (n*m)≤wl n+wl m:=by
 unfold wl
 refine dig_len_le _ _ ?_
 rw [Int.natAbs_mul,Nat.pow_add]
 exact Nat.mul_lt_mul'' (dig_lt _) (dig_lt _)
theorem wl_add (n m:Int):wl (n+m)≤max (wl n) (wl m)+1:=by
 unfold wl
 refine dig_len_le _ _ ?_
 have h1:=dig_lt n.natAbs
 have h2:=dig_lt m.natAbs
 have h3:4294967296^(dig n.natAbs).length≤4294967296^(max (dig n.natAbs).length (dig m.natAbs).length):=Nat.pow_le_pow_right (by decide) (Nat.le_max_left _ _)
 have h4:4294967296^(dig m.natAbs).length≤4294967296^(max (dig n.natAbs).length (dig m.natAbs).length):=Nat.pow_le_pow_right (by decide) (Nat.le_max_right _ _)
 have h5:=Int.natAbs_add_le n m
 rw [Nat.pow_succ]
 generalize 4294967296^(max (dig n.natAbs).length (dig m.natAbs).length)=M at *
 omega
theorem wl_neg (n:Int):wl (-n)=wl n:=by simp [wl]
theorem wl_sub (n m:Int):wl (n-m)≤max (wl n) (wl m)+1:=by
 have:=wl_add n (-m)
 rw [wl_neg] at this
 rwa [Int.sub_eq_add_neg]
def OkR (q:Rat):Prop:=wl q.num≤1073741824∧wl q.den≤1073741824
theorem OkR.num {q:Rat} (h:OkR q):Okn q.num:=Nat.le_trans h.1 (by decide)
theorem OkR.den {q:Rat} (h:OkR q):Okn q.den:=Nat.le_trans h.2 (by decide)
theorem okn_mul {n m:Int} (h:wl n≤1073741824) (k:wl m≤1073741824):Okn (n*m):=by
 have:=wl_mul n m
 show wl _≤_
 omega
theorem okn_add {n m a b:Int} (h:wl n≤1073741824) (k:wl m≤1073741824) (h':wl a≤1073741824) (k':wl b≤1073741824):Okn (n*m+a*b):=by
 have h1:=wl_mul n m
 have h2:=wl_mul a b
 have h3:=wl_add (n*m) (a*b)
 show wl _≤_
 omega
theorem okn_sub {n m a b:Int} (h:wl n≤1073741824) (k:wl m≤1073741824) (h':wl a≤1073741824) (k':wl b≤1073741824):Okn (n*m-a*b):=by
 have h1:=wl_mul n m
 have h2:=wl_mul a b
 have h3:=wl_sub (n*m) (a*b)
 show wl _≤_
 omega
theorem RatAt.num {w:World} {b o:Nat} {q:Rat} (h:RatAt w b o q):IntAt w b o q.num:=h.2.1
theorem den_ne (x:Rat):(x.den:Int)≠0:=by have:=x.den_pos; omega
theorem divInt_mul (x y:Rat):Rat.divInt (x.num*y.num) ((x.den:Int)*y.den)=x*y:=by
 rw [← Rat.divInt_mul_divInt,Rat.num_divInt_den,Rat.num_divInt_den]
set_option maxHeartbeats 1600000 in
set_option maxRecDepth 100000 in
theorem rMul_any {w:World} {b o c p d q:Nat} {x y:Rat} (hz:Slot w b o 4) (hx:RatAt w c p x) (hy:RatAt w d q y) (kx:OkR x) (ky:OkR y) :
  Calls Tryz.prog 173 #[.pointer (some ⟨b,o,none⟩),.pointer (some ⟨c,p,none⟩),.pointer (some ⟨d,q,none⟩)] w fun e w'=>e=.returned (.pointer (some ⟨b,o,none⟩))∧RatAt w' b o (x*y)∧Touch w w' b o 4:=by
 have HX:=Lib.hid hx
 have HY:=Lib.hid hy
 have HZ:=Lib.hid hz
 have KX:=Lib.hid kx
 have KY:=Lib.hid ky
 clear hx hy hz kx ky
 go_enter Tryz.func173,Tryz.ntmps173
 go_wp2
 refine wp_region_ghost 15 (GC w.heap.size w [1,9,11,13]) (fun γ wq _ wr=>GE w.heap.size [(1,8),(9,14)] γ wq wr) (fun i γ wq v=>match i with
   | 0=>v=.pointer (some ⟨b,o,none⟩)
   | 1=>VA w.heap.size wq v
   | 2=>v=.pointer (some ⟨c,p,none⟩)
   | 3=>v=.pointer (some ⟨c,p,none⟩)
   | 4=>v=.pointer (some ⟨c,p,none⟩)
   | 5=>v=.pointer (some ⟨d,q,none⟩)
   | 6=>v=.pointer (some ⟨d,q,none⟩)
   | 7=>v=.pointer (some ⟨d,q,none⟩)
   | 8=>VM w.heap.size 1 (x.num*y.num) γ wq v
   | 9=>VA w.heap.size wq v
   | 10=>v=.pointer (some ⟨c,p,none⟩)
   | 11=>VD ((x).den:Int) wq v
   | 12=>v=.pointer (some ⟨d,q,none⟩)
   | 13=>VD ((y).den:Int) wq v
   | 14=>VM w.heap.size 9 ((x.den:Int)*y.den) γ wq v
   | _=>True) (by kernel_rfl) (by kernel_rfl) (by kernel_rfl) (GC.start _ (Nat.le_refl _)) ?_ ⟨?_,?_,?_,?_,?_,?_,?_,?_,?_,?_,?_,?_,?_,?_,?_,trivial⟩ ?_
 · intro i γ w1 k xq w2 v hC hC2 hE hk hi hV
   match i with
   | 0=>exact hV
   | 1=>exact VA.stable hV hE
   | 2=>exact hV
   | 3=>exact hV
   | 4=>exact hV
   | 5=>exact hV
   | 6=>exact hV
   | 7=>exact hV
   | 8=>exact VM.stable 8 k hV hC hE hk hi rfl
   | 9=>exact VA.stable hV hE
   | 10=>exact hV
   | 11=>exact VD.stable 11 hV hC hE hi rfl
   | 12=>exact hV
   | 13=>exact VD.stable 13 hV hC hE hi rfl
   | 14=>exact VM.stable 14 k hV hC hE hk hi rfl
   | _+15=>trivial
 · intro a' γ w' hag hC hk hd K hK
   have e0:a'.tmps.getD 0 undef=.pointer (some ⟨b,o,none⟩):=hag 0 rfl
   go_step
   exact hK _ _ (hC.step 0 _ rfl (Below.refl _ _)) (GE.refl _ _ _ _) rfl
 · intro a' γ w' hag hC hk hd K hK
   have hb:Below w'.heap.size w' (w'.alloc (.cells #[.bool false,.slice none 0 0] 211)):=(Below.refl _ _).alloc (Nat.le_refl _) _
   have HK:=Lib.hid (hK (.pointer (some ⟨w'.heap.size,0,none⟩)) _ (hC.own 1 _ _ hb (IntAt.new w').lt (.inr (Nat.le_refl _))) (GE.below _ _ hb) ⟨_,rfl,hC.size,(IntAt.new w').slot⟩)
   clear hb hK hC
   go_step
   exact HK.out
 · intro a' γ w' hag hC hk hd K hK
   have e1:a'.tmps.getD 1 undef=.pointer (some ⟨c,p,none⟩):=hag 1 rfl
   go_step
   exact hK _ _ (hC.step 2 _ rfl (Below.refl _ _)) (GE.refl _ _ _ _) rfl
 · intro a' γ w' hag hC hk hd K hK
   have e9:a'.tmps.getD 9 undef=.pointer (some ⟨c,p,none⟩):=hd.1.2
   go_step
   exact hK _ _ (hC.step 3 _ rfl (Below.refl _ _)) (GE.refl _ _ _ _) rfl
 · intro a' γ w' hag hC hk hd K hK
   have e10:a'.tmps.getD 10 undef=.pointer (some ⟨c,p,none⟩):=hd.1.2
   go_step
   exact hK _ _ (hC.step 4 _ rfl (Below.refl _ _)) (GE.refl _ _ _ _) rfl
 · intro a' γ w' hag hC hk hd K hK
   have e2:a'.tmps.getD 2 undef=.pointer (some ⟨d,q,none⟩):=hag 2 rfl
   go_step
   exact hK _ _ (hC.step 5 _ rfl (Below.refl _ _)) (GE.refl _ _ _ _) rfl
 · intro a' γ w' hag hC hk hd K hK
   have e12:a'.tmps.getD 12 undef=.pointer (some ⟨d,q,none⟩):=hd.1.2
   go_step
   exact hK _ _ (hC.step 6 _ rfl (Below.refl _ _)) (GE.refl _ _ _ _) rfl
 · intro a' γ w' hag hC hk hd K hK
   have e13:a'.tmps.getD 13 undef=.pointer (some ⟨d,q,none⟩):=hd.1.2
   go_step
   exact hK _ _ (hC.step 7 _ rfl (Below.refl _ _)) (GE.refl _ _ _ _) rfl
 · intro a' γ w' hag hC hk hd K hK
   have q8:VA w.heap.size w' (a'.tmps.getD 8 undef):=hd.1.2
   have gg8:γ 1=some (a'.tmps.getD 8 undef):=hd.1.1
   obtain ⟨g8,e8,hb8,hs8⟩:=q8
   rw [e8] at gg8
   have e8:a'.tmps.getD 8 undef=.pointer (some ⟨g8,0,none⟩):=e8
   have e11:a'.tmps.getD 11 undef=.pointer (some ⟨c,p,none⟩):=hd.2.1.2
   have e14:a'.tmps.getD 14 undef=.pointer (some ⟨d,q,none⟩):=hd.2.2.1.2
   have hx:=Lib.hid (mul_any hs8 (HX.out.on hC.below).num (HY.out.on hC.below).num KX.out.num KY.out.num)
   go_step
   refine hx.out.mono ?_
   rintro e w2 ⟨rfl,h1,h2⟩
   exact hK _ _ (hC.step 8 _ rfl (h2.below hb8 hC.size)) (GE.write 1 8 rfl hs8 h2 gg8 hk hb8) ⟨_,rfl,upd_some gg8 hk,hb8,h1⟩
 · intro a' γ w' hag hC hk hd K hK
   have hb:Below w'.heap.size w' (w'.alloc (.cells #[.bool false,.slice none 0 0] 211)):=(Below.refl _ _).alloc (Nat.le_refl _) _
   have HK:=Lib.hid (hK (.pointer (some ⟨w'.heap.size,0,none⟩)) _ (hC.own 9 _ _ hb (IntAt.new w').lt (.inr (Nat.le_refl _))) (GE.below _ _ hb) ⟨_,rfl,hC.size,(IntAt.new w').slot⟩)
   clear hb hK hC
   go_step
   exact HK.out
 · intro a' γ w' hag hC hk hd K hK
   have e1:a'.tmps.getD 1 undef=.pointer (some ⟨c,p,none⟩):=hag 1 rfl
   go_step
   exact hK _ _ (hC.step 10 _ rfl (Below.refl _ _)) (GE.refl _ _ _ _) rfl
 · intro a' γ w' hag hC hk hd K hK
   have e17:a'.tmps.getD 17 undef=.pointer (some ⟨c,p,none⟩):=hd.1.2
   have hx:=HX.out.on hC.below
   go_step
   refine (den_any hx).mono ?_
   rintro e w2 ⟨g,j,rfl,h1,h2,h3⟩
   exact hK _ _ (hC.own 11 _ _ h2 h1.lt (h3.imp (fun e=>by rw [e]; exact HX.out.lt) id)) (GE.below _ _ h2) ⟨_,_,rfl,h1⟩
 · intro a' γ w' hag hC hk hd K hK
   have e2:a'.tmps.getD 2 undef=.pointer (some ⟨d,q,none⟩):=hag 2 rfl
   go_step
   exact hK _ _ (hC.step 12 _ rfl (Below.refl _ _)) (GE.refl _ _ _ _) rfl
 · intro a' γ w' hag hC hk hd K hK
   have e19:a'.tmps.getD 19 undef=.pointer (some ⟨d,q,none⟩):=hd.1.2
   have hx:=HY.out.on hC.below
   go_step
   refine (den_any hx).mono ?_
   rintro e w2 ⟨g,j,rfl,h1,h2,h3⟩
   exact hK _ _ (hC.own 13 _ _ h2 h1.lt (h3.imp (fun e=>by rw [e]; exact HY.out.lt) id)) (GE.below _ _ h2) ⟨_,_,rfl,h1⟩
 · intro a' γ w' hag hC hk hd K hK
   have q16:VA w.heap.size w' (a'.tmps.getD 16 undef):=hd.1.2
   have gg16:γ 9=some (a'.tmps.getD 16 undef):=hd.1.1
   obtain ⟨g16,e16,hb16,hs16⟩:=q16
   rw [e16] at gg16
   have e16:a'.tmps.getD 16 undef=.pointer (some ⟨g16,0,none⟩):=e16
   have q18:VD ((x).den:Int) w' (a'.tmps.getD 18 undef):=hd.2.1.2
   have gg18:γ 11=some (a'.tmps.getD 18 undef):=hd.2.1.1
   obtain ⟨g18,i18,e18,h18⟩:=q18
   rw [e18] at gg18
   have e18:a'.tmps.getD 18 undef=.pointer (some ⟨g18,i18,none⟩):=e18
   have q20:VD ((y).den:Int) w' (a'.tmps.getD 20 undef):=hd.2.2.1.2
   have gg20:γ 13=some (a'.tmps.getD 20 undef):=hd.2.2.1.1
   obtain ⟨g20,i20,e20,h20⟩:=q20
   rw [e20] at gg20
   have e20:a'.tmps.getD 20 undef=.pointer (some ⟨g20,i20,none⟩):=e20
   have hx:=Lib.hid (mul_any hs16 h18 h20 KX.out.den KY.out.den)
   go_step
   refine hx.out.mono ?_
   rintro e w2 ⟨rfl,h1,h2⟩
   exact hK _ _ (hC.step 14 _ rfl (h2.below hb16 hC.size)) (GE.write 9 14 rfl hs16 h2 gg16 hk hb16) ⟨_,rfl,upd_some gg16 hk,hb16,h1⟩
 · intro γ u w' hC hgh hall
   obtain ⟨u0,u1,u2,u3,u4,u5,u6,u7,u8,u9,u10,u11,u12,u13,u14,_⟩:=hall
   have u0:u 0=.pointer (some ⟨b,o,none⟩):=u0
   have u2:u 2=.pointer (some ⟨c,p,none⟩):=u2
   have u3:u 3=.pointer (some ⟨c,p,none⟩):=u3
   have u4:u 4=.pointer (some ⟨c,p,none⟩):=u4
   have u5:u 5=.pointer (some ⟨d,q,none⟩):=u5
   have u6:u 6=.pointer (some ⟨d,q,none⟩):=u6
   have u7:u 7=.pointer (some ⟨d,q,none⟩):=u7
   obtain ⟨g15,eu8,ga15,hb15,h15⟩:=u8
   have u8:u 8=.pointer (some ⟨g15,0,none⟩):=eu8
   have u10:u 10=.pointer (some ⟨c,p,none⟩):=u10
   have u12:u 12=.pointer (some ⟨d,q,none⟩):=u12
   obtain ⟨g21,eu14,ga21,hb21,h21⟩:=u14
   have u14:u 14=.pointer (some ⟨g21,0,none⟩):=eu14
   simp only [fillR,List.take_succ_cons,List.take_zero,Act.put,List.setIfInBounds_toArray,List.set_cons_succ,List.set_cons_zero,Nat.zero_add,Nat.reduceAdd,u0,u2,u3,u4,u5,u6,u7,u8,u10,u12,u14]
   clear u0 u2 u3 u4 u5 u6 u7 u8 u10 u12 u14
   have HC:=Lib.hid hC
   have H15:=Lib.hid h15
   have H21:=Lib.hid h21
   clear hC h15 h21 ga15 ga21 hb15 hb21
   go_wp2_with fail
   refine (SetFrac_any (HZ.out.on HC.out.below) H15.out H21.out (Int.mul_ne_zero (den_ne x) (den_ne y)) (okn_mul KX.out.1 KY.out.1) (okn_mul KX.out.2 KY.out.2)).mono ?_
   rintro e w3 ⟨rfl,h1,h2⟩
   rw [divInt_mul] at h1
   have H1:=Lib.hid h1
   have HT:=Lib.hid ((Touch.of_below HC.out.below b o 4).trans h2)
   clear h1 h2
   go_wp2
   go_ret
   exact ⟨rfl,H1.out,HT.out⟩
theorem divInt_quo (x y:Rat):Rat.divInt (x.num*(y.den:Int)) ((x.den:Int)*y.num)=x/y:=by
 rw [← Rat.divInt_mul_divInt,Rat.num_divInt_den,← Rat.inv_def,Rat.div_def]
theorem divInt_Add (x y:Rat):Rat.divInt (x.num*(y.den:Int)+y.num*(x.den:Int)) ((x.den:Int)*(y.den:Int))=x+y:=by
 rw [Rat.add_def',← Int.natCast_mul]; rfl
set_option maxHeartbeats 1600000 in
set_option maxRecDepth 100000 in
theorem rAdd_any {w:World} {b o c p d q:Nat} {x y:Rat} (hz:Slot w b o 4) (hx:RatAt w c p x) (hy:RatAt w d q y) (kx:OkR x) (ky:OkR y) :
  Calls Tryz.prog 174 #[.pointer (some ⟨b,o,none⟩),.pointer (some ⟨c,p,none⟩),.pointer (some ⟨d,q,none⟩)] w fun e w'=>e=.returned (.pointer (some ⟨b,o,none⟩))∧RatAt w' b o (x+y)∧Touch w w' b o 4:=by
 have HX:=Lib.hid hx
 have HY:=Lib.hid hy
 have HZ:=Lib.hid hz
 have KX:=Lib.hid kx
 have KY:=Lib.hid ky
 clear hx hy hz kx ky
 go_enter Tryz.func174,Tryz.ntmps174
 go_wp2
 refine wp_region_ghost 6 (GC w.heap.size w [0,5]) (fun γ wq _ wr=>GE w.heap.size [] γ wq wr) (fun i γ wq v=>match i with
   | 0=>VA w.heap.size wq v
   | 1=>v=.pointer (some ⟨c,p,none⟩)
   | 2=>v=.pointer (some ⟨c,p,none⟩)
   | 3=>v=.pointer (some ⟨c,p,none⟩)
   | 4=>v=.pointer (some ⟨d,q,none⟩)
   | 5=>VD ((y).den:Int) wq v
   | _=>True) (by kernel_rfl) (by kernel_rfl) (by kernel_rfl) (GC.start _ (Nat.le_refl _)) ?_ ⟨?_,?_,?_,?_,?_,?_,trivial⟩ ?_
 · intro i γ w1 k xq w2 v hC hC2 hE hk hi hV
   match i with
   | 0=>exact VA.stable hV hE
   | 1=>exact hV
   | 2=>exact hV
   | 3=>exact hV
   | 4=>exact hV
   | 5=>exact VD.stable 5 hV hC hE hi rfl
   | _+6=>trivial
 · intro a' γ w' hag hC hk hd K hK
   have hb:Below w'.heap.size w' (w'.alloc (.cells #[.bool false,.slice none 0 0] 211)):=(Below.refl _ _).alloc (Nat.le_refl _) _
   have HK:=Lib.hid (hK (.pointer (some ⟨w'.heap.size,0,none⟩)) _ (hC.own 0 _ _ hb (IntAt.new w').lt (.inr (Nat.le_refl _))) (GE.below _ _ hb) ⟨_,rfl,hC.size,(IntAt.new w').slot⟩)
   clear hb hK hC
   go_step
   exact HK.out
 · intro a' γ w' hag hC hk hd K hK
   have e1:a'.tmps.getD 1 undef=.pointer (some ⟨c,p,none⟩):=hag 1 rfl
   go_step
   exact hK _ _ (hC.step 1 _ rfl (Below.refl _ _)) (GE.refl _ _ _ _) rfl
 · intro a' γ w' hag hC hk hd K hK
   have e9:a'.tmps.getD 9 undef=.pointer (some ⟨c,p,none⟩):=hd.1.2
   go_step
   exact hK _ _ (hC.step 2 _ rfl (Below.refl _ _)) (GE.refl _ _ _ _) rfl
 · intro a' γ w' hag hC hk hd K hK
   have e10:a'.tmps.getD 10 undef=.pointer (some ⟨c,p,none⟩):=hd.1.2
   go_step
   exact hK _ _ (hC.step 3 _ rfl (Below.refl _ _)) (GE.refl _ _ _ _) rfl
 · intro a' γ w' hag hC hk hd K hK
   have e2:a'.tmps.getD 2 undef=.pointer (some ⟨d,q,none⟩):=hag 2 rfl
   go_step
   exact hK _ _ (hC.step 4 _ rfl (Below.refl _ _)) (GE.refl _ _ _ _) rfl
 · intro a' γ w' hag hC hk hd K hK
   have e12:a'.tmps.getD 12 undef=.pointer (some ⟨d,q,none⟩):=hd.1.2
   have hx:=HY.out.on hC.below
   go_step
   refine (den_any hx).mono ?_
   rintro e w2 ⟨g,j,rfl,h1,h2,h3⟩
   exact hK _ _ (hC.own 5 _ _ h2 h1.lt (h3.imp (fun e=>by rw [e]; exact HY.out.lt) id)) (GE.below _ _ h2) ⟨_,_,rfl,h1⟩
 · intro γ u w' hC hgh hall
   obtain ⟨u0,u1,u2,u3,u4,u5,_⟩:=hall
   obtain ⟨g8,eu0,hb8,hs8⟩:=u0
   have u0:u 0=.pointer (some ⟨g8,0,none⟩):=eu0
   have u1:u 1=.pointer (some ⟨c,p,none⟩):=u1
   have u2:u 2=.pointer (some ⟨c,p,none⟩):=u2
   have u3:u 3=.pointer (some ⟨c,p,none⟩):=u3
   have u4:u 4=.pointer (some ⟨d,q,none⟩):=u4
   obtain ⟨g13,i13,eu5,h13⟩:=u5
   have u5:u 5=.pointer (some ⟨g13,i13,none⟩):=eu5
   simp only [fillR,List.take_succ_cons,List.take_zero,Act.put,List.setIfInBounds_toArray,List.set_cons_succ,List.set_cons_zero,Nat.zero_add,Nat.reduceAdd,u0,u1,u2,u3,u4,u5]
   clear u0 u1 u2 u3 u4 u5
   have HC:=Lib.hid hC.below
   have HB8:=Lib.hid hb8
   have HS8:=Lib.hid hs8
   have H13:=Lib.hid h13
   have hx1:=HX.out.on HC.out
   clear hC hb8 hs8 h13
   go_wp2_with fail
   refine (mul_any HS8.out hx1.num H13.out KX.out.num KY.out.den).mono ?_
   rintro e w1 ⟨rfl,h1,h2⟩
   have HB1:Hid (Below w.heap.size w w1):=HC.out.trans (h2.below HB8.out HC.out.size)
   have H1:=Lib.hid h1
   clear h1 h2 hx1 H13 HS8 HC
   have HX1:=Lib.hid (HX.out.on HB1.out)
   have HY1:=Lib.hid (HY.out.on HB1.out)
   go_wp2
   refine wp_region_ghost 9 (GC w1.heap.size w1 [2,7]) (fun γ wq _ wr=>GE w1.heap.size [(2,8)] γ wq wr) (fun i γ wq v=>match i with
     | 0=>v=.pointer (some ⟨g8,0,none⟩)
     | 1=>v=.pointer (some ⟨g8,0,none⟩)
     | 2=>VA w1.heap.size wq v
     | 3=>v=.pointer (some ⟨d,q,none⟩)
     | 4=>v=.pointer (some ⟨d,q,none⟩)
     | 5=>v=.pointer (some ⟨d,q,none⟩)
     | 6=>v=.pointer (some ⟨c,p,none⟩)
     | 7=>VD ((x).den:Int) wq v
     | 8=>VM w1.heap.size 2 (y.num*(x.den:Int)) γ wq v
     | _=>True) (by kernel_rfl) (by kernel_rfl) (by kernel_rfl) (GC.start _ (Nat.le_refl _)) ?_ ⟨?_,?_,?_,?_,?_,?_,?_,?_,?_,trivial⟩ ?_
   · intro i γ w1 k xq w2 v hC hC2 hE hk hi hV
     match i with
     | 0=>exact hV
     | 1=>exact hV
     | 2=>exact VA.stable hV hE
     | 3=>exact hV
     | 4=>exact hV
     | 5=>exact hV
     | 6=>exact hV
     | 7=>exact VD.stable 7 hV hC hE hi rfl
     | 8=>exact VM.stable 8 k hV hC hE hk hi rfl
     | _+9=>trivial
   · intro a' γ w' hag hC hk hd K hK
     have e7:a'.tmps.getD 7 undef=.pointer (some ⟨g8,0,none⟩):=hag 7 rfl
     go_step
     exact hK _ _ (hC.step 0 _ rfl (Below.refl _ _)) (GE.refl _ _ _ _) rfl
   · intro a' γ w' hag hC hk hd K hK
     have e7:a'.tmps.getD 7 undef=.pointer (some ⟨g8,0,none⟩):=hag 7 rfl
     go_step
     exact hK _ _ (hC.step 1 _ rfl (Below.refl _ _)) (GE.refl _ _ _ _) rfl
   · intro a' γ w' hag hC hk hd K hK
     have hb:Below w'.heap.size w' (w'.alloc (.cells #[.bool false,.slice none 0 0] 211)):=(Below.refl _ _).alloc (Nat.le_refl _) _
     have HK:=Lib.hid (hK (.pointer (some ⟨w'.heap.size,0,none⟩)) _ (hC.own 2 _ _ hb (IntAt.new w').lt (.inr (Nat.le_refl _))) (GE.below _ _ hb) ⟨_,rfl,hC.size,(IntAt.new w').slot⟩)
     clear hb hK hC
     go_step
     exact HK.out
   · intro a' γ w' hag hC hk hd K hK
     have e2:a'.tmps.getD 2 undef=.pointer (some ⟨d,q,none⟩):=hag 2 rfl
     go_step
     exact hK _ _ (hC.step 3 _ rfl (Below.refl _ _)) (GE.refl _ _ _ _) rfl
   · intro a' γ w' hag hC hk hd K hK
     have e18:a'.tmps.getD 18 undef=.pointer (some ⟨d,q,none⟩):=hd.1.2
     go_step
     exact hK _ _ (hC.step 4 _ rfl (Below.refl _ _)) (GE.refl _ _ _ _) rfl
   · intro a' γ w' hag hC hk hd K hK
     have e19:a'.tmps.getD 19 undef=.pointer (some ⟨d,q,none⟩):=hd.1.2
     go_step
     exact hK _ _ (hC.step 5 _ rfl (Below.refl _ _)) (GE.refl _ _ _ _) rfl
   · intro a' γ w' hag hC hk hd K hK
     have e1:a'.tmps.getD 1 undef=.pointer (some ⟨c,p,none⟩):=hag 1 rfl
     go_step
     exact hK _ _ (hC.step 6 _ rfl (Below.refl _ _)) (GE.refl _ _ _ _) rfl
   · intro a' γ w' hag hC hk hd K hK
     have e21:a'.tmps.getD 21 undef=.pointer (some ⟨c,p,none⟩):=hd.1.2
     have hx:=HX1.out.on hC.below
     go_step
     refine (den_any hx).mono ?_
     rintro e w2 ⟨g,j,rfl,h1,h2,h3⟩
     exact hK _ _ (hC.own 7 _ _ h2 h1.lt (h3.imp (fun e=>by rw [e]; exact HX1.out.lt) id)) (GE.below _ _ h2) ⟨_,_,rfl,h1⟩
   · intro a' γ w' hag hC hk hd K hK
     have q17:VA w1.heap.size w' (a'.tmps.getD 17 undef):=hd.1.2
     have gg17:γ 2=some (a'.tmps.getD 17 undef):=hd.1.1
     obtain ⟨g17,e17,hb17,hs17⟩:=q17
     rw [e17] at gg17
     have e17:a'.tmps.getD 17 undef=.pointer (some ⟨g17,0,none⟩):=e17
     have e20:a'.tmps.getD 20 undef=.pointer (some ⟨d,q,none⟩):=hd.2.1.2
     have q22:VD ((x).den:Int) w' (a'.tmps.getD 22 undef):=hd.2.2.1.2
     have gg22:γ 7=some (a'.tmps.getD 22 undef):=hd.2.2.1.1
     obtain ⟨g22,i22,e22,h22⟩:=q22
     rw [e22] at gg22
     have e22:a'.tmps.getD 22 undef=.pointer (some ⟨g22,i22,none⟩):=e22
     have hx:=Lib.hid (mul_any hs17 (HY1.out.on hC.below).num h22 KY.out.num KX.out.den)
     go_step
     refine hx.out.mono ?_
     rintro e w2 ⟨rfl,h1,h2⟩
     exact hK _ _ (hC.step 8 _ rfl (h2.below hb17 hC.size)) (GE.write 2 8 rfl hs17 h2 gg17 hk hb17) ⟨_,rfl,upd_some gg17 hk,hb17,h1⟩
   · intro γ u w' hC hgh hall
     obtain ⟨u0,u1,u2,u3,u4,u5,u6,u7,u8,_⟩:=hall
     have u0:u 0=.pointer (some ⟨g8,0,none⟩):=u0
     have u1:u 1=.pointer (some ⟨g8,0,none⟩):=u1
     have u3:u 3=.pointer (some ⟨d,q,none⟩):=u3
     have u4:u 4=.pointer (some ⟨d,q,none⟩):=u4
     have u5:u 5=.pointer (some ⟨d,q,none⟩):=u5
     have u6:u 6=.pointer (some ⟨c,p,none⟩):=u6
     obtain ⟨g23,eu8,ga23,hb23,h23⟩:=u8
     have u8:u 8=.pointer (some ⟨g23,0,none⟩):=eu8
     simp only [fillR,List.take_succ_cons,List.take_zero,Act.put,List.setIfInBounds_toArray,List.set_cons_succ,List.set_cons_zero,Nat.zero_add,Nat.reduceAdd,u0,u1,u3,u4,u5,u6,u8]
     clear u0 u1 u3 u4 u5 u6 u8
     have HC2:=Lib.hid hC.below
     have H23:=Lib.hid h23
     have h1':=H1.out.on HC2.out
     clear hC h23 ga23 hb23
     go_wp2_with fail
     refine (Add_any h1'.slot h1' H23.out (okn_mul KX.out.1 KY.out.2) (okn_mul KY.out.1 KX.out.2)).mono ?_
     rintro e w3 ⟨rfl,h2,h3⟩
     have HB3:Hid (Below w.heap.size w w3):=(HB1.out.trans (HC2.out.mono HB1.out.size)).trans (h3.below HB8.out (Nat.le_trans HB1.out.size HC2.out.size))
     have HN:=Lib.hid h2
     clear h1' h2 h3 H23 HC2 HX1 HY1 HB1 H1
     have ha:Below w3.heap.size w3 (w3.alloc (.cells #[.bool false,.slice none 0 0] 211)):=(Below.refl _ _).alloc (Nat.le_refl _) _
     have hx3:=(HX.out.on HB3.out).on ha
     go_wp2_with fail
     refine (den_any hx3).mono ?_
     rintro e w4 ⟨gx,ix,rfl,h1,h2,h3⟩
     have hb4:=ha.trans (h2.mono ha.size)
     have HB4:=Lib.hid hb4
     have HDX:=Lib.hid h1
     have HNX:Hid (gx≠w3.heap.size):=by
      have h4:=ha.size
      have h5:=HX.out.lt
      have h6:=HB3.out.size
      have h7:(w3.alloc (.cells #[.bool false,.slice none 0 0] 211)).heap.size=w3.heap.size+1:=by simp [World.alloc_eq]
      unfold Hid
      omega
     have HS:Hid (Slot w4 w3.heap.size 0 2):=(IntAt.new w3).slot.on h2
     clear h1 h2 h3 hx3 ha hb4
     have hy4:=(HY.out.on HB3.out).on HB4.out
     go_wp2_with fail
     refine (den_any hy4).mono ?_
     rintro e w5 ⟨gy,iy,rfl,h1,h2,h3⟩
     have hs5:=HS.out.on h2
     have hd5:=HDX.out.on h2
     have HB5:Hid (Below w3.heap.size w3 w5):=HB4.out.trans (h2.mono HB4.out.size)
     have HDY:=Lib.hid h1
     clear h1 h2 h3 hy4
     go_wp2_with fail
     refine (mul_any hs5 hd5 HDY.out KX.out.den KY.out.den).mono ?_
     rintro e w6 ⟨rfl,h1,h2⟩
     have HB6:Hid (Below w3.heap.size w3 w6):=HB5.out.trans (h2.below (Nat.le_refl _) HB5.out.size)
     have HD:=Lib.hid h1
     clear h1 h2 hs5 hd5 HDX HDY HS HB4 HB5 HNX
     have hz6:=(HZ.out.on HB3.out).on HB6.out
     have hn6:=HN.out.on HB6.out
     go_wp2_with fail
     refine (SetFrac_any hz6 hn6 HD.out (Int.mul_ne_zero (den_ne x) (den_ne y)) (okn_add KX.out.1 KY.out.2 KY.out.1 KX.out.2) (okn_mul KX.out.2 KY.out.2)).mono ?_
     rintro e w7 ⟨rfl,h1,h2⟩
     rw [divInt_Add] at h1
     have H1:=Lib.hid h1
     have HT:=Lib.hid ((Touch.of_below (HB3.out.trans (HB6.out.mono HB3.out.size)) b o 4).trans h2)
     clear h1 h2 hz6 hn6
     go_wp2
     go_ret
     exact ⟨rfl,H1.out,HT.out⟩
theorem divInt_Sub (x y:Rat):Rat.divInt (x.num*(y.den:Int)-y.num*(x.den:Int)) ((x.den:Int)*(y.den:Int))=x-y:=by
 rw [Rat.sub_def',← Int.natCast_mul]; rfl
set_option maxHeartbeats 1600000 in
set_option maxRecDepth 100000 in
theorem rSub_any {w:World} {b o c p d q:Nat} {x y:Rat} (hz:Slot w b o 4) (hx:RatAt w c p x) (hy:RatAt w d q y) (kx:OkR x) (ky:OkR y) :
  Calls Tryz.prog 243 #[.pointer (some ⟨b,o,none⟩),.pointer (some ⟨c,p,none⟩),.pointer (some ⟨d,q,none⟩)] w fun e w'=>e=.returned (.pointer (some ⟨b,o,none⟩))∧RatAt w' b o (x-y)∧Touch w w' b o 4:=by
 have HX:=Lib.hid hx
 have HY:=Lib.hid hy
 have HZ:=Lib.hid hz
 have KX:=Lib.hid kx
 have KY:=Lib.hid ky
 clear hx hy hz kx ky
 go_enter Tryz.func243,Tryz.ntmps243
 go_wp2
 refine wp_region_ghost 6 (GC w.heap.size w [0,5]) (fun γ wq _ wr=>GE w.heap.size [] γ wq wr) (fun i γ wq v=>match i with
   | 0=>VA w.heap.size wq v
   | 1=>v=.pointer (some ⟨c,p,none⟩)
   | 2=>v=.pointer (some ⟨c,p,none⟩)
   | 3=>v=.pointer (some ⟨c,p,none⟩)
   | 4=>v=.pointer (some ⟨d,q,none⟩)
   | 5=>VD ((y).den:Int) wq v
   | _=>True) (by kernel_rfl) (by kernel_rfl) (by kernel_rfl) (GC.start _ (Nat.le_refl _)) ?_ ⟨?_,?_,?_,?_,?_,?_,trivial⟩ ?_
 · intro i γ w1 k xq w2 v hC hC2 hE hk hi hV
   match i with
   | 0=>exact VA.stable hV hE
   | 1=>exact hV
   | 2=>exact hV
   | 3=>exact hV
   | 4=>exact hV
   | 5=>exact VD.stable 5 hV hC hE hi rfl
   | _+6=>trivial
 · intro a' γ w' hag hC hk hd K hK
   have hb:Below w'.heap.size w' (w'.alloc (.cells #[.bool false,.slice none 0 0] 211)):=(Below.refl _ _).alloc (Nat.le_refl _) _
   have HK:=Lib.hid (hK (.pointer (some ⟨w'.heap.size,0,none⟩)) _ (hC.own 0 _ _ hb (IntAt.new w').lt (.inr (Nat.le_refl _))) (GE.below _ _ hb) ⟨_,rfl,hC.size,(IntAt.new w').slot⟩)
   clear hb hK hC
   go_step
   exact HK.out
 · intro a' γ w' hag hC hk hd K hK
   have e1:a'.tmps.getD 1 undef=.pointer (some ⟨c,p,none⟩):=hag 1 rfl
   go_step
   exact hK _ _ (hC.step 1 _ rfl (Below.refl _ _)) (GE.refl _ _ _ _) rfl
 · intro a' γ w' hag hC hk hd K hK
   have e9:a'.tmps.getD 9 undef=.pointer (some ⟨c,p,none⟩):=hd.1.2
   go_step
   exact hK _ _ (hC.step 2 _ rfl (Below.refl _ _)) (GE.refl _ _ _ _) rfl
 · intro a' γ w' hag hC hk hd K hK
   have e10:a'.tmps.getD 10 undef=.pointer (some ⟨c,p,none⟩):=hd.1.2
   go_step
   exact hK _ _ (hC.step 3 _ rfl (Below.refl _ _)) (GE.refl _ _ _ _) rfl
 · intro a' γ w' hag hC hk hd K hK
   have e2:a'.tmps.getD 2 undef=.pointer (some ⟨d,q,none⟩):=hag 2 rfl
   go_step
   exact hK _ _ (hC.step 4 _ rfl (Below.refl _ _)) (GE.refl _ _ _ _) rfl
 · intro a' γ w' hag hC hk hd K hK
   have e12:a'.tmps.getD 12 undef=.pointer (some ⟨d,q,none⟩):=hd.1.2
   have hx:=HY.out.on hC.below
   go_step
   refine (den_any hx).mono ?_
   rintro e w2 ⟨g,j,rfl,h1,h2,h3⟩
   exact hK _ _ (hC.own 5 _ _ h2 h1.lt (h3.imp (fun e=>by rw [e]; exact HY.out.lt) id)) (GE.below _ _ h2) ⟨_,_,rfl,h1⟩
 · intro γ u w' hC hgh hall
   obtain ⟨u0,u1,u2,u3,u4,u5,_⟩:=hall
   obtain ⟨g8,eu0,hb8,hs8⟩:=u0
   have u0:u 0=.pointer (some ⟨g8,0,none⟩):=eu0
   have u1:u 1=.pointer (some ⟨c,p,none⟩):=u1
   have u2:u 2=.pointer (some ⟨c,p,none⟩):=u2
   have u3:u 3=.pointer (some ⟨c,p,none⟩):=u3
   have u4:u 4=.pointer (some ⟨d,q,none⟩):=u4
   obtain ⟨g13,i13,eu5,h13⟩:=u5
   have u5:u 5=.pointer (some ⟨g13,i13,none⟩):=eu5
   simp only [fillR,List.take_succ_cons,List.take_zero,Act.put,List.setIfInBounds_toArray,List.set_cons_succ,List.set_cons_zero,Nat.zero_add,Nat.reduceAdd,u0,u1,u2,u3,u4,u5]
   clear u0 u1 u2 u3 u4 u5
   have HC:=Lib.hid hC.below
   have HB8:=Lib.hid hb8
   have HS8:=Lib.hid hs8
   have H13:=Lib.hid h13
   have hx1:=HX.out.on HC.out
   clear hC hb8 hs8 h13
   go_wp2_with fail
   refine (mul_any HS8.out hx1.num H13.out KX.out.num KY.out.den).mono ?_
   rintro e w1 ⟨rfl,h1,h2⟩
   have HB1:Hid (Below w.heap.size w w1):=HC.out.trans (h2.below HB8.out HC.out.size)
   have H1:=Lib.hid h1
   clear h1 h2 hx1 H13 HS8 HC
   have HX1:=Lib.hid (HX.out.on HB1.out)
   have HY1:=Lib.hid (HY.out.on HB1.out)
   go_wp2
   refine wp_region_ghost 9 (GC w1.heap.size w1 [2,7]) (fun γ wq _ wr=>GE w1.heap.size [(2,8)] γ wq wr) (fun i γ wq v=>match i with
     | 0=>v=.pointer (some ⟨g8,0,none⟩)
     | 1=>v=.pointer (some ⟨g8,0,none⟩)
     | 2=>VA w1.heap.size wq v
     | 3=>v=.pointer (some ⟨d,q,none⟩)
     | 4=>v=.pointer (some ⟨d,q,none⟩)
     | 5=>v=.pointer (some ⟨d,q,none⟩)
     | 6=>v=.pointer (some ⟨c,p,none⟩)
     | 7=>VD ((x).den:Int) wq v
     | 8=>VM w1.heap.size 2 (y.num*(x.den:Int)) γ wq v
     | _=>True) (by kernel_rfl) (by kernel_rfl) (by kernel_rfl) (GC.start _ (Nat.le_refl _)) ?_ ⟨?_,?_,?_,?_,?_,?_,?_,?_,?_,trivial⟩ ?_
   · intro i γ w1 k xq w2 v hC hC2 hE hk hi hV
     match i with
     | 0=>exact hV
     | 1=>exact hV
     | 2=>exact VA.stable hV hE
     | 3=>exact hV
     | 4=>exact hV
     | 5=>exact hV
     | 6=>exact hV
     | 7=>exact VD.stable 7 hV hC hE hi rfl
     | 8=>exact VM.stable 8 k hV hC hE hk hi rfl
     | _+9=>trivial
   · intro a' γ w' hag hC hk hd K hK
     have e7:a'.tmps.getD 7 undef=.pointer (some ⟨g8,0,none⟩):=hag 7 rfl
     go_step
     exact hK _ _ (hC.step 0 _ rfl (Below.refl _ _)) (GE.refl _ _ _ _) rfl
   · intro a' γ w' hag hC hk hd K hK
     have e7:a'.tmps.getD 7 undef=.pointer (some ⟨g8,0,none⟩):=hag 7 rfl
     go_step
     exact hK _ _ (hC.step 1 _ rfl (Below.refl _ _)) (GE.refl _ _ _ _) rfl
   · intro a' γ w' hag hC hk hd K hK
     have hb:Below w'.heap.size w' (w'.alloc (.cells #[.bool false,.slice none 0 0] 211)):=(Below.refl _ _).alloc (Nat.le_refl _) _
     have HK:=Lib.hid (hK (.pointer (some ⟨w'.heap.size,0,none⟩)) _ (hC.own 2 _ _ hb (IntAt.new w').lt (.inr (Nat.le_refl _))) (GE.below _ _ hb) ⟨_,rfl,hC.size,(IntAt.new w').slot⟩)
     clear hb hK hC
     go_step
     exact HK.out
   · intro a' γ w' hag hC hk hd K hK
     have e2:a'.tmps.getD 2 undef=.pointer (some ⟨d,q,none⟩):=hag 2 rfl
     go_step
     exact hK _ _ (hC.step 3 _ rfl (Below.refl _ _)) (GE.refl _ _ _ _) rfl
   · intro a' γ w' hag hC hk hd K hK
     have e18:a'.tmps.getD 18 undef=.pointer (some ⟨d,q,none⟩):=hd.1.2
     go_step
     exact hK _ _ (hC.step 4 _ rfl (Below.refl _ _)) (GE.refl _ _ _ _) rfl
   · intro a' γ w' hag hC hk hd K hK
     have e19:a'.tmps.getD 19 undef=.pointer (some ⟨d,q,none⟩):=hd.1.2
     go_step
     exact hK _ _ (hC.step 5 _ rfl (Below.refl _ _)) (GE.refl _ _ _ _) rfl
   · intro a' γ w' hag hC hk hd K hK
     have e1:a'.tmps.getD 1 undef=.pointer (some ⟨c,p,none⟩):=hag 1 rfl
     go_step
     exact hK _ _ (hC.step 6 _ rfl (Below.refl _ _)) (GE.refl _ _ _ _) rfl
   · intro a' γ w' hag hC hk hd K hK
     have e21:a'.tmps.getD 21 undef=.pointer (some ⟨c,p,none⟩):=hd.1.2
     have hx:=HX1.out.on hC.below
     go_step
     refine (den_any hx).mono ?_
     rintro e w2 ⟨g,j,rfl,h1,h2,h3⟩
     exact hK _ _ (hC.own 7 _ _ h2 h1.lt (h3.imp (fun e=>by rw [e]; exact HX1.out.lt) id)) (GE.below _ _ h2) ⟨_,_,rfl,h1⟩
   · intro a' γ w' hag hC hk hd K hK
     have q17:VA w1.heap.size w' (a'.tmps.getD 17 undef):=hd.1.2
     have gg17:γ 2=some (a'.tmps.getD 17 undef):=hd.1.1
     obtain ⟨g17,e17,hb17,hs17⟩:=q17
     rw [e17] at gg17
     have e17:a'.tmps.getD 17 undef=.pointer (some ⟨g17,0,none⟩):=e17
     have e20:a'.tmps.getD 20 undef=.pointer (some ⟨d,q,none⟩):=hd.2.1.2
     have q22:VD ((x).den:Int) w' (a'.tmps.getD 22 undef):=hd.2.2.1.2
     have gg22:γ 7=some (a'.tmps.getD 22 undef):=hd.2.2.1.1
     obtain ⟨g22,i22,e22,h22⟩:=q22
     rw [e22] at gg22
     have e22:a'.tmps.getD 22 undef=.pointer (some ⟨g22,i22,none⟩):=e22
     have hx:=Lib.hid (mul_any hs17 (HY1.out.on hC.below).num h22 KY.out.num KX.out.den)
     go_step
     refine hx.out.mono ?_
     rintro e w2 ⟨rfl,h1,h2⟩
     exact hK _ _ (hC.step 8 _ rfl (h2.below hb17 hC.size)) (GE.write 2 8 rfl hs17 h2 gg17 hk hb17) ⟨_,rfl,upd_some gg17 hk,hb17,h1⟩
   · intro γ u w' hC hgh hall
     obtain ⟨u0,u1,u2,u3,u4,u5,u6,u7,u8,_⟩:=hall
     have u0:u 0=.pointer (some ⟨g8,0,none⟩):=u0
     have u1:u 1=.pointer (some ⟨g8,0,none⟩):=u1
     have u3:u 3=.pointer (some ⟨d,q,none⟩):=u3
     have u4:u 4=.pointer (some ⟨d,q,none⟩):=u4
     have u5:u 5=.pointer (some ⟨d,q,none⟩):=u5
     have u6:u 6=.pointer (some ⟨c,p,none⟩):=u6
     obtain ⟨g23,eu8,ga23,hb23,h23⟩:=u8
     have u8:u 8=.pointer (some ⟨g23,0,none⟩):=eu8
     simp only [fillR,List.take_succ_cons,List.take_zero,Act.put,List.setIfInBounds_toArray,List.set_cons_succ,List.set_cons_zero,Nat.zero_add,Nat.reduceAdd,u0,u1,u3,u4,u5,u6,u8]
     clear u0 u1 u3 u4 u5 u6 u8
     have HC2:=Lib.hid hC.below
     have H23:=Lib.hid h23
     have h1':=H1.out.on HC2.out
     clear hC h23 ga23 hb23
     go_wp2_with fail
     refine (Sub_any h1'.slot h1' H23.out (okn_mul KX.out.1 KY.out.2) (okn_mul KY.out.1 KX.out.2)).mono ?_
     rintro e w3 ⟨rfl,h2,h3⟩
     have HB3:Hid (Below w.heap.size w w3):=(HB1.out.trans (HC2.out.mono HB1.out.size)).trans (h3.below HB8.out (Nat.le_trans HB1.out.size HC2.out.size))
     have HN:=Lib.hid h2
     clear h1' h2 h3 H23 HC2 HX1 HY1 HB1 H1
     have ha:Below w3.heap.size w3 (w3.alloc (.cells #[.bool false,.slice none 0 0] 211)):=(Below.refl _ _).alloc (Nat.le_refl _) _
     have hx3:=(HX.out.on HB3.out).on ha
     go_wp2_with fail
     refine (den_any hx3).mono ?_
     rintro e w4 ⟨gx,ix,rfl,h1,h2,h3⟩
     have hb4:=ha.trans (h2.mono ha.size)
     have HB4:=Lib.hid hb4
     have HDX:=Lib.hid h1
     have HNX:Hid (gx≠w3.heap.size):=by
      have h4:=ha.size
      have h5:=HX.out.lt
      have h6:=HB3.out.size
      have h7:(w3.alloc (.cells #[.bool false,.slice none 0 0] 211)).heap.size=w3.heap.size+1:=by simp [World.alloc_eq]
      unfold Hid
      omega
     have HS:Hid (Slot w4 w3.heap.size 0 2):=(IntAt.new w3).slot.on h2
     clear h1 h2 h3 hx3 ha hb4
     have hy4:=(HY.out.on HB3.out).on HB4.out
     go_wp2_with fail
     refine (den_any hy4).mono ?_
     rintro e w5 ⟨gy,iy,rfl,h1,h2,h3⟩
     have hs5:=HS.out.on h2
     have hd5:=HDX.out.on h2
     have HB5:Hid (Below w3.heap.size w3 w5):=HB4.out.trans (h2.mono HB4.out.size)
     have HDY:=Lib.hid h1
     clear h1 h2 h3 hy4
     go_wp2_with fail
     refine (mul_any hs5 hd5 HDY.out KX.out.den KY.out.den).mono ?_
     rintro e w6 ⟨rfl,h1,h2⟩
     have HB6:Hid (Below w3.heap.size w3 w6):=HB5.out.trans (h2.below (Nat.le_refl _) HB5.out.size)
     have HD:=Lib.hid h1
     clear h1 h2 hs5 hd5 HDX HDY HS HB4 HB5 HNX
     have hz6:=(HZ.out.on HB3.out).on HB6.out
     have hn6:=HN.out.on HB6.out
     go_wp2_with fail
     refine (SetFrac_any hz6 hn6 HD.out (Int.mul_ne_zero (den_ne x) (den_ne y)) (okn_sub KX.out.1 KY.out.2 KY.out.1 KX.out.2) (okn_mul KX.out.2 KY.out.2)).mono ?_
     rintro e w7 ⟨rfl,h1,h2⟩
     rw [divInt_Sub] at h1
     have H1:=Lib.hid h1
     have HT:=Lib.hid ((Touch.of_below (HB3.out.trans (HB6.out.mono HB3.out.size)) b o 4).trans h2)
     clear h1 h2 hz6 hn6
     go_wp2
     go_ret
     exact ⟨rfl,H1.out,HT.out⟩
end Go.Proofs.YtmfedaakeeiolaaGreat
end
