/- Nb, Rat, RegH, RatB, RatC, RatD, Fs, May, Sz, Gqa. -/
import Derived.Test.YtdiemgedlfnlmaaGreatVk7
set_option linter.unnecessarySimpa false
set_option linter.unusedVariables false
set_option linter.unusedSimpArgs false
section
namespace Go.Proofs.YtdiemgedlfnlmaaGreat
open Go.RowKit
theorem size_alloc (w:World) (o:Obj):(w.alloc o).heap.size=w.heap.size+1:=by simp
theorem byt_row {W:World} (s:ByteArray) (c cap n:Nat) (fr:Nat × Nat) (hn:n=W.heap.size):Byt ((W.alloc (.cells (bytesRow s c) 5 fr)).drew) (.slice (some ⟨n,0,none⟩) s.size cap) (leS s).reverse:=by
 subst hn
 have hl:(leS s).reverse.length=s.size:=by rw [List.length_reverse,leS_len]
 refine ⟨(B8_leS s).reverse,W.heap.size,cap,bytesRow s c,5,fr,by rw [hl],?_,?_⟩
 · exact heap_alloc_new W _
 · intro i hi
   rw [hl] at hi
   have hd:i<s.data.size:=hi
   rw [bytesRow_at s _ i hd,leS,List.reverse_reverse,getD_in (by rw [List.length_map]; exact hd),List.getElem_map]
   rfl
theorem IntAt.new_at {w:World} {n:Nat} (hn:n=w.heap.size):IntAt (w.alloc (.cells #[.bool false,.slice none 0 0] 186)) n 0 0:=hn▸IntAt.new w
theorem below_row (W:World) (c:Array Value) (t:TypeId) (fr:Nat × Nat):Below W.heap.size W ((W.alloc (.cells c t fr)).drew):=((Below.refl _ _).alloc (Nat.le_refl _) _).drew
theorem below_new (W:World) (o:Obj):Below W.heap.size W (W.alloc o):=(Below.refl _ _).alloc (Nat.le_refl _) _
set_option maxRecDepth 100000 in
theorem back_any {w:World} {b o:Nat} {n:Int} (hx:IntAt w b o n) (hn:Okn n) :
  Calls Tryz.prog 258 #[.pointer (some ⟨b,o,none⟩)] w fun e w'=>e=.returned (wholeV n)∧Below w.heap.size w w':=by
 have HB:=Lib.hid (below_new w (.cells #[.bool false,.string ⟨#[]⟩] 23))
 have hx1:=hx.on HB.out
 have HX:=Lib.hid hx1
 have HN:=Lib.hid hn
 have HC:=Lib.hid (BoxAt.new w #[.bool false,.string ⟨#[]⟩] 23)
 obtain ⟨s,hs⟩:∃ s,s=decide (n<0):=⟨_,rfl⟩
 have hsg:decide (n.sign<0)=s:=by
  rw [hs]
  refine decide_eq_decide.2 ?_
  exact Int.sign_neg_iff
 have HSG:=Lib.hid hs
 clear hx hx1 hn hs
 go_enter Tryz.func258,Tryz.ntmps258
 go_wp2_with fail
 refine (sign_any HX.out).mono ?_
 rintro e w1 ⟨rfl,rfl⟩
 go_wp2_with fail
 refine (Bytes_any HX.out HN.out).mono ?_
 rintro e w2 ⟨v,rfl,hby,hb⟩
 obtain ⟨h,m,cap,rfl⟩:=hby.form
 have hcv:=string_of_byt hby
 have hc0:=(HC.out.on hb).cell 0 _ rfl
 have hc1:=(HC.out.on hb).cell 1 _ rfl
 have hf:=(HC.out.on hb).frozen
 have HK:=Lib.hid (((HC.out.on hb).set 0 (.bool (decide (n<0)))).set 1 (.string (strN (led n.natAbs).reverse)))
 have HB2:=Lib.hid (HB.out.trans (hb.mono HB.out.size))
 clear hby hb
 go_wp2
 have h0:=HK.out.cell 0 (.bool (decide (n<0))) rfl
 have h1:=HK.out.cell 1 (.string (strN (led n.natAbs).reverse)) rfl
 exact bodyPost_ret (v:=wholeV n) (by simp [results,Tryz.results258,go_sem,h0,h1,wholeV,mag]) rfl ⟨rfl,(HB2.out.setCell (Nat.le_refl _) _).setCell (Nat.le_refl _) _⟩
def RatAt (w:World) (b o:Nat) (q:Rat):Prop :=
 Slot w b o 4∧IntAt w b o q.num∧∃ d:Int,IntAt w b (o+2) d∧(d=q.den∨d=0∧q.den=1)
theorem RatAt.slot {w:World} {b o:Nat} {q:Rat} (h:RatAt w b o q):Slot w b o 4:=h.1
theorem RatAt.lt {w:World} {b o:Nat} {q:Rat} (h:RatAt w b o q):b<w.heap.size:=h.1.lt
theorem RatAt.on {w w':World} {b o:Nat} {q:Rat} (h:RatAt w b o q) (k:Below w.heap.size w w'):RatAt w' b o q:=by
 obtain ⟨h1,h2,d,h3,h4⟩:=h
 exact ⟨h1.on k,h2.on k,d,h3.on k,h4⟩
theorem RatAt.new (w:World):RatAt (w.alloc (.cells #[.bool false,.slice none 0 0,.bool false,.slice none 0 0] 188)) w.heap.size 0 0:=by
 have hb:=heap_alloc_new w (.cells #[.bool false,.slice none 0 0,.bool false,.slice none 0 0] 188)
 refine ⟨⟨_,_,hb,by decide,by simp⟩,⟨⟨_,_,hb,by decide,by simp⟩,?_,.slice none 0 0,?_,?_⟩,0,⟨⟨_,_,hb,by decide,by simp⟩,?_,.slice none 0 0,?_,?_⟩,.inr ⟨rfl,rfl⟩⟩
 · rw [cell_of_row _ _ _ _ _ _ hb]; rfl
 · rw [cell_of_row _ _ _ _ _ _ hb]; rfl
 · rw [show (0:Rat).num=0 from rfl,Int.natAbs_zero,dig_zero]; exact Words.nil _
 · rw [cell_of_row _ _ _ _ _ _ hb]; rfl
 · rw [cell_of_row _ _ _ _ _ _ hb]; rfl
 · rw [Int.natAbs_zero,dig_zero]; exact Words.nil _
theorem setFrac_of (n m:Int) (h0:m≠0) (g:Int) (hg:g=if m<0 then -(Int.gcd n m:Int) else (Int.gcd n m:Int)):g≠0∧n.tdiv g=(Rat.divInt n m).num∧m.tdiv g=(Rat.divInt n m).den:=by
 have hgp:0<Int.gcd n m:=Int.gcd_pos_of_ne_zero_right _ h0
 obtain ⟨k,hk⟩:=Int.gcd_dvd_left n m
 obtain ⟨l,hl⟩:=Int.gcd_dvd_right n m
 rw [Rat.num_divInt,Rat.den_divInt,if_neg h0,Int.gcd_comm m n]
 generalize Int.gcd n m=c at *
 have hc:(c:Int)≠0:=by omega
 by_cases h:m<0
 · rw [if_pos h] at hg
   subst hg
   refine ⟨by omega,?_,?_⟩
   · rw [Int.sign_eq_neg_one_of_neg h,hk,Int.tdiv_neg,Int.mul_tdiv_cancel_left _ hc,Int.neg_mul,Int.one_mul,← Int.mul_neg,Int.mul_ediv_cancel_left _ hc]
   · rw [hl,Int.tdiv_neg,Int.mul_tdiv_cancel_left _ hc,Int.natAbs_mul,Int.natAbs_natCast,Nat.mul_div_cancel_left _ hgp]
     have:l<0:=by
      rcases Int.lt_or_le l 0 with h1 | h1
      · exact h1
      · have:=Int.mul_nonneg (Int.natCast_nonneg c) h1; omega
     omega
 · rw [if_neg h] at hg
   subst hg
   refine ⟨hc,?_,?_⟩
   · rw [Int.sign_eq_one_of_pos (by omega),hk,Int.mul_tdiv_cancel_left _ hc,Int.one_mul,Int.mul_ediv_cancel_left _ hc]
   · rw [hl,Int.mul_tdiv_cancel_left _ hc,Int.natAbs_mul,Int.natAbs_natCast,Nat.mul_div_cancel_left _ hgp]
     have:0≤l:=by
      rcases Int.lt_or_le l 0 with h1 | h1
      · have:=Int.mul_neg_of_pos_of_neg (show 0<(c:Int) by omega) h1; omega
      · exact h1
     omega
theorem den_any {w:World} {b o:Nat} {q:Rat} (hx:RatAt w b o q) :
  Calls Tryz.prog 293 #[.pointer (some ⟨b,o,none⟩)] w fun e w'=>∃ g i,e=.returned (.pointer (some ⟨g,i,none⟩))∧IntAt w' g i q.den∧Below w.heap.size w w'∧(g=b∨w.heap.size≤g):=by
 obtain ⟨hs,hn,d,hd,hq⟩:=hx
 obtain ⟨A,la,ca,hd0,hd1,hdv,hlt⟩:=hd.open_
 have hl:=hdv.len.1
 have hb:=hdv.2.1
 have HD:=Lib.hid hd
 have HQ:=Lib.hid hq
 clear hs hn hdv hd0 hd
 by_cases h0:d=0
 · subst h0
   rw [Int.natAbs_zero,dig_zero] at hl
   obtain rfl:la=0:=hl
   have hq1:((q.den:Nat):Int)=1:=by have:=q.den_pos; omega
   rw [hq1]
   clear hb hq hq1
   go_enter Tryz.func293,Tryz.ntmps293
   go_wp2_with fail
   refine (NewInt_any (by omega)).mono ?_
   rintro e w1 ⟨b1,rfl,h0,h1,h2⟩
   have H0:=Lib.hid h0
   have H1:=Lib.hid h1
   have H2:=Lib.hid h2
   clear h1 h2 h0
   go_wp2
   go_ret
   exact ⟨_,_,rfl,H1.out,H2.out,.inr H0.out⟩
 · have hl0:0<la:=by
    rcases Nat.eq_zero_or_pos la with h | h
    · rw [h] at hl
      have:=(dig_nil_iff d.natAbs).1 (List.eq_nil_of_length_eq_zero hl.symm)
      omega
    · exact h
   have hlb:la≤17179869184:=by omega
   have hq1:d=q.den:=by omega
   have H1:Hid (IntAt w b (o+2) q.den):=by rw [← hq1]; exact HD.out
   have hne:((la:Int)==0)=false:=by rw [beq_eq_false_iff_ne]; omega
   clear hl hb hq hq1 HQ HD h0
   go_enter Tryz.func293,Tryz.ntmps293
   go_wp2
   go_ret
   exact ⟨_,_,rfl,H1.out,Below.refl _ _,.inl rfl⟩
theorem ratAt_set {w:World} {b o:Nat} {q:Rat} {s1 s2:Bool} {v1 v2:Value} (hs:Slot w b o 4) (h1:Words w v1 (dig q.num.natAbs)) (h2:Words w v2 (dig (q.den:Int).natAbs)) (e1:decide (q.num<0)=s1) (e2:decide ((q.den:Int)<0)=s2) :
  RatAt ((((w.setCell ⟨b,o,none⟩ (.bool s1)).setCell ⟨b,o+1,none⟩ v1).setCell ⟨b,o+2,none⟩ (.bool s2)).setCell ⟨b,o+2+1,none⟩ v2) b o q ∧
  Touch w ((((w.setCell ⟨b,o,none⟩ (.bool s1)).setCell ⟨b,o+1,none⟩ v1).setCell ⟨b,o+2,none⟩ (.bool s2)).setCell ⟨b,o+2+1,none⟩ v2) b o 4:=by
 have ht:Touch w ((((w.setCell ⟨b,o,none⟩ (.bool s1)).setCell ⟨b,o+1,none⟩ v1).setCell ⟨b,o+2,none⟩ (.bool s2)).setCell ⟨b,o+2+1,none⟩ v2) b o 4 :=
  ((((Touch.refl w b o 4).set_ o (by omega) _).set_ (o+1) (by omega) _).set_ (o+2) (by omega) _).set_ (o+2+1) (by omega) _
 obtain ⟨cs,t,k1,k2,k3⟩:=id hs
 have hb:((((w.setCell ⟨b,o,none⟩ (.bool s1)).setCell ⟨b,o+1,none⟩ v1).setCell ⟨b,o+2,none⟩ (.bool s2)).setCell ⟨b,o+2+1,none⟩ v2).heap[b]?=some (.cells ((((cs.setIfInBounds o (.bool s1)).setIfInBounds (o+1) v1).setIfInBounds (o+2) (.bool s2)).setIfInBounds (o+2+1) v2) t (0,0)):=by
  simp [World.setCell,Array.getElem?_modify,k1]
 have hsl:=hs.touch ht
 have hw1:=h1.touch hs ht
 have hw2:=h2.touch hs ht
 refine ⟨⟨hsl,⟨hsl.part (by omega),?_,v1,?_,hw1⟩,q.den,⟨hsl.part (by omega),?_,v2,?_,hw2⟩,.inl rfl⟩,ht⟩
 · rw [cell_of_row _ _ _ _ _ _ hb,Array.getElem?_setIfInBounds_ne (by omega),Array.getElem?_setIfInBounds_ne (by omega),Array.getElem?_setIfInBounds_ne (by omega),Array.getElem?_setIfInBounds_self_of_lt (by omega),e1]
 · rw [cell_of_row _ _ _ _ _ _ hb,Array.getElem?_setIfInBounds_ne (by omega),Array.getElem?_setIfInBounds_ne (by omega),Array.getElem?_setIfInBounds_self_of_lt (by simp; omega)]
 · rw [cell_of_row _ _ _ _ _ _ hb,Array.getElem?_setIfInBounds_ne (by omega),Array.getElem?_setIfInBounds_self_of_lt (by simp; omega),e2]
 · rw [cell_of_row _ _ _ _ _ _ hb,Array.getElem?_setIfInBounds_self_of_lt (by simp; omega)]
set_option maxHeartbeats 1600000 in
theorem SetFrac_any {w:World} {b o c p d q:Nat} {n m:Int} (hz:Slot w b o 4) (hx:IntAt w c p n) (hy:IntAt w d q m) (h0:m≠0) (hn:Okn n) (hm:Okn m) :
  Calls Tryz.prog 252 #[.pointer (some ⟨b,o,none⟩),.pointer (some ⟨c,p,none⟩),.pointer (some ⟨d,q,none⟩)] w fun e w'=>e=.returned (.pointer (some ⟨b,o,none⟩))∧RatAt w' b o (Rat.divInt n m)∧Touch w w' b o 4:=by
 have HX:=Lib.hid hx
 have HY:=Lib.hid hy
 have HZ:=Lib.hid hz
 have HN:=Lib.hid hn
 have HM:=Lib.hid hm
 have H0:=Lib.hid h0
 clear hx hy hz hn hm h0
 go_enter Tryz.func252,Tryz.ntmps252
 go_wp2_with fail
 have ha:Below w.heap.size w (w.alloc (.cells #[.bool false,.slice none 0 0] 186)):=(Below.refl _ _).alloc (Nat.le_refl _) _
 refine (gcd_any (IntAt.new w).slot (HX.out.on ha) (HY.out.on ha) HN.out HM.out).mono ?_
 rintro e w1 ⟨rfl,h1,h2⟩
 have hb1:=ha.trans (h2.below (Nat.le_refl _) ha.size)
 have HX1:=Lib.hid (HX.out.on hb1)
 have HY1:=Lib.hid (HY.out.on hb1)
 have HZ1:=Lib.hid (HZ.out.on hb1)
 have HB1:=Lib.hid hb1
 have HG1:=Lib.hid h1
 have HBZ:Hid (w.heap.size≠b):=by have:=HZ.out.lt; unfold Hid; omega
 obtain ⟨B,lb,cb,hd0,_,_,hlt⟩:=HY1.out.open_
 have HGZ:Hid (Slot w1 w.heap.size 0 2):=h1.slot
 obtain ⟨G,hG⟩:∃ G:Int,G=if m<0 then -(Int.gcd n m:Int) else (Int.gcd n m:Int):=⟨_,rfl⟩
 obtain ⟨hg0,hgn,hgd⟩:=setFrac_of n m H0.out G hG
 have HG0:=Lib.hid hg0
 have HGN:=Lib.hid hgn
 have HGD:=Lib.hid hgd
 have HGV:=Lib.hid hG
 clear h1 h2 ha hb1 hg0 hgn hgd hG
 go_upto_if 17 with (fail)
 go_cut [] from 17 to 20 (fun wc=>Hid (IntAt wc w.heap.size 0 G)∧Hid (Below w.heap.size w wc))
 case first =>
  by_cases k:m<0
  · have kd:decide (m<0)=true:=by simpa using k
    rw [kd] at hd0
    have HE:Hid (-(Int.gcd n m:Int)=G):=by have:=HGV.out; rw [if_pos k] at this; exact this.symm
    go_wp2_with fail
    refine (neg_any HGZ.out HG1.out).mono ?_
    rintro e w2 ⟨rfl,h1,h2⟩
    rw [HE.out] at h1
    have H1:=Lib.hid h1
    have HB2:=Lib.hid (HB1.out.trans (h2.below (Nat.le_refl _) HB1.out.size))
    clear h1 h2
    go_wp2_with fail
    go_meet
    exact ⟨H1.out,HB2.out⟩
  · have kd:decide (m<0)=false:=by simpa using k
    rw [kd] at hd0
    have HE:Hid ((Int.gcd n m:Int)=G):=by have:=HGV.out; rw [if_neg k] at this; exact this.symm
    have H1:Hid (IntAt w1 w.heap.size 0 G):=by rw [← HE.out]; exact HG1.out
    go_wp2_with fail
    go_meet
    exact ⟨H1.out,HB1.out⟩
 case rest =>
  obtain ⟨HGG,HBB⟩:=hcut
  have ha:Below wc.heap.size wc (wc.alloc (.cells #[.bool false,.slice none 0 0] 186)):=(Below.refl _ _).alloc (Nat.le_refl _) _
  go_wp2_with fail
  refine (Quo_any (IntAt.new wc).slot ((HX.out.on HBB.out).on ha) (HGG.out.on ha) HG0.out HN.out).mono ?_
  rintro e w3 ⟨rfl,h1,h2⟩
  rw [HGN.out] at h1
  have hb3:=ha.trans (h2.below (Nat.le_refl _) ha.size)
  have HB3:=Lib.hid hb3
  have HN3:=Lib.hid h1
  clear h1 h2 ha hb3
  have ha:Below w3.heap.size w3 (w3.alloc (.cells #[.bool false,.slice none 0 0] 186)):=(Below.refl _ _).alloc (Nat.le_refl _) _
  go_wp2_with fail
  refine (Quo_any (IntAt.new w3).slot (((HY.out.on HBB.out).on HB3.out).on ha) ((HGG.out.on HB3.out).on ha) HG0.out HM.out).mono ?_
  rintro e w4 ⟨rfl,h1,h2⟩
  rw [HGD.out] at h1
  have hb4:=ha.trans (h2.below (Nat.le_refl _) ha.size)
  have HN4:=Lib.hid (HN3.out.on hb4)
  have HD4:=Lib.hid h1
  have HZ4:Hid (Slot w4 b o 4):=((HZ.out.on HBB.out).on HB3.out).on hb4
  have HB4:Hid (Below w.heap.size w w4):=HBB.out.trans ((HB3.out.mono HBB.out.size).trans (hb4.mono (Nat.le_trans HBB.out.size HB3.out.size)))
  have HNE:Hid (wc.heap.size≠b∧w3.heap.size≠b):=by
   have h3:=HZ.out.lt
   have h4:=HBB.out.size
   have h5:=HB3.out.size
   constructor<;>omega
  clear h1 h2 ha hb4 HN3 HX1 HY1 HZ1 HB1 HG1 HGZ HGG HX HY HZ hd0 hlt
  revert HNE HN4 HD4
  clear HBB HB3
  generalize wc.heap.size=g1
  generalize w3.heap.size=g2
  intro HN4 HD4 HNE
  obtain ⟨A1,l1,c1,hn0,hn1,hnv,hnl⟩:=HN4.out.open_
  obtain ⟨A2,l2,c2,hd0,hd1,hdv,hdl⟩:=HD4.out.open_
  have HW1:=Lib.hid hnv
  have HW2:=Lib.hid hdv
  clear hnv hdv
  rw [Nat.zero_add] at hn1 hd1
  generalize hs1:decide ((Rat.divInt n m).num<0)=s1 at hn0
  generalize hs2:decide (((Rat.divInt n m).den:Int)<0)=s2 at hd0
  have HS1:=Lib.hid hs1
  have HS2:=Lib.hid hs2
  clear hs1 hs2
  obtain ⟨v0,hv0⟩:=HZ4.out.cell o (by omega)
  obtain ⟨v1,hv1⟩:=HZ4.out.cell (o+1) (by omega)
  obtain ⟨v2,hv2⟩:=HZ4.out.cell (o+2) (by omega)
  obtain ⟨v3,hv3⟩:=HZ4.out.cell (o+2+1) (by omega)
  have hf:∀ i,w4.frozen? ⟨b,i,none⟩=false:=fun i=>HZ4.out.frozen i
  have hg1:=HNE.out.1
  have hg2:=HNE.out.2
  go_wp2
  go_region
  obtain ⟨hr,ht⟩:=ratAt_set HZ4.out HW1.out HW2.out HS1.out HS2.out
  have HRA:=Lib.hid hr
  have HTO:=Lib.hid ht
  clear hr ht
  go_wp2
  go_ret
  exact ⟨rfl,HRA.out.on (Below.refl _ _).drew,(((Touch.of_below HB4.out b o 4).trans HTO.out)).drew⟩
def blk (v:Value):Option Nat:=match v with
 | .pointer (some a)=>some a.block
 | _=>none
structure GC (base:Nat) (w0:World) (ow:List Nat) (γ:Gh) (w:World):Prop where
 below:Below base w0 w
 size:base≤w.heap.size
 lt:∀ i∈ow,∀ v g,γ i=some v→blk v=some g→g<w.heap.size
 apart:∀ i∈ow,∀ j∈ow,i≠j→∀ v u g,γ i=some v→γ j=some u→blk v=some g→blk u=some g→g<base
structure GE (base:Nat) (wr:List (Nat × Nat)) (γ:Gh) (w w':World):Prop where
 int:∀ g o n,IntAt w g o n→(∃ p∈wr,∃ v,γ p.1=some v∧blk v=some g∧γ p.2=none∧base≤g)∨IntAt w' g o n
 slot:∀ g o n,Slot w g o n→Slot w' g o n
theorem GC.start {base:Nat} {w0:World} (ow:List Nat) (hb:base≤w0.heap.size):GC base w0 ow gh0 w0.drew :=
 ⟨(Below.refl _ _).drew,hb,(fun _ _ _ _ h=>nomatch h),(fun _ _ _ _ _ _ _ _ h=>nomatch h)⟩
theorem upd_some {γ:Gh} {k i:Nat} {x v:Value} (h:γ i=some v) (hk:γ k=none):γ.upd k x i=some v:=by
 rw [Gh.upd_ne γ x (fun e=>by rw [e,hk] at h; cases h)]
 exact h
theorem GC.step {base:Nat} {w0 w w':World} {ow:List Nat} {γ:Gh} (h:GC base w0 ow γ w) (k:Nat) (x:Value) (hk:ow.contains k=false) (hb:Below base w w'):GC base w0 ow (γ.upd k x) w':=by
 have hne:∀ i∈ow,i≠k:=fun i hi e=>by subst e; rw [List.contains_iff_mem.2 hi] at hk; cases hk
 refine ⟨h.below.trans hb,Nat.le_trans h.size hb.size,fun i hi v g h1 h2=>?_,fun i hi j hj hij v u g h1 h2=>?_⟩
 · rw [Gh.upd_ne γ x (hne i hi)] at h1
   exact Nat.lt_of_lt_of_le (h.lt i hi v g h1 h2) hb.size
 · rw [Gh.upd_ne γ x (hne i hi)] at h1
   rw [Gh.upd_ne γ x (hne j hj)] at h2
   exact h.apart i hi j hj hij v u g h1 h2
theorem GC.own {base:Nat} {w0 w w':World} {ow:List Nat} {γ:Gh} (h:GC base w0 ow γ w) (k:Nat) (g o:Nat) (hb:Below w.heap.size w w') (hg:g<w'.heap.size) (hn:g<base∨w.heap.size≤g) :
  GC base w0 ow (γ.upd k (.pointer (some ⟨g,o,none⟩))) w':=by
 refine ⟨h.below.trans (hb.mono h.size),Nat.le_trans h.size hb.size,fun i hi v j h1 h2=>?_,fun i hi j hj hij v u c h1 h2 h3 h4=>?_⟩
 · by_cases e:i=k
   · subst e
     rw [Gh.upd_self] at h1
     cases h1
     cases h2
     exact hg
   · rw [Gh.upd_ne γ _ e] at h1
     exact Nat.lt_of_lt_of_le (h.lt i hi v j h1 h2) hb.size
 · by_cases e:i=k
   · subst e
     rw [Gh.upd_self] at h1
     rw [Gh.upd_ne γ _ (Ne.symm hij)] at h2
     cases h1
     cases h3
     have:=h.lt j hj u _ h2 h4
     simp only at this ⊢
     omega
   · rw [Gh.upd_ne γ _ e] at h1
     by_cases e2:j=k
     · subst e2
       rw [Gh.upd_self] at h2
       cases h2
       cases h4
       have:=h.lt i hi v _ h1 h3
       simp only at this ⊢
       omega
     · rw [Gh.upd_ne γ _ e2] at h2
       exact h.apart i hi j hj hij v u c h1 h2 h3 h4
theorem GE.below {base:Nat} {w w':World} (wr:List (Nat × Nat)) (γ:Gh) (h:Below w.heap.size w w'):GE base wr γ w w' :=
 ⟨fun _ _ _ k=>.inr (k.on h),fun _ _ _ k=>k.on h⟩
theorem GE.refl (base:Nat) (w:World) (wr:List (Nat × Nat)) (γ:Gh):GE base wr γ w w:=GE.below wr γ (Below.refl _ _)
theorem GE.write {base:Nat} {w w':World} {wr:List (Nat × Nat)} {γ:Gh} {g n:Nat} (a k:Nat) (hp:wr.contains (a,k)=true) (hs:Slot w g 0 n) (ht:Touch w w' g 0 n) (ha:γ a=some (.pointer (some ⟨g,0,none⟩))) (hk:γ k=none) (hb:base≤g):GE base wr γ w w':=by
 refine ⟨fun c o x hx=>?_,fun _ _ _ k=>k.touch ht⟩
 by_cases e:c=g
 · subst e
   exact .inl ⟨(a,k),List.contains_iff_mem.1 hp,_,ha,rfl,hk,hb⟩
 · exact .inr (hx.touch hs ht (.inl e))
def VA (base:Nat) (w:World) (v:Value):Prop:=∃ g,v=.pointer (some ⟨g,0,none⟩)∧base≤g∧Slot w g 0 2
def VD (n:Int) (w:World) (v:Value):Prop:=∃ g i,v=.pointer (some ⟨g,i,none⟩)∧IntAt w g i n
def VM (base a:Nat) (n:Int) (γ:Gh) (w:World) (v:Value):Prop:=∃ g,v=.pointer (some ⟨g,0,none⟩)∧γ a=some (.pointer (some ⟨g,0,none⟩))∧base≤g∧IntAt w g 0 n
theorem VA.stable {base:Nat} {wr:List (Nat × Nat)} {γ:Gh} {w w':World} {v:Value} (h:VA base w v) (hE:GE base wr γ w w'):VA base w' v:=by
 obtain ⟨g,h1,h2,h3⟩:=h
 exact ⟨g,h1,h2,hE.slot _ _ _ h3⟩
theorem VD.stable {base:Nat} {w0:World} {ow:List Nat} {wr:List (Nat × Nat)} {γ:Gh} {w w':World} {v:Value} {n:Int} (i:Nat) (h:VD n w v) (hC:GC base w0 ow γ w) (hE:GE base wr γ w w') (hi:γ i=some v) (hb:(ow.contains i&&wr.all fun p=>ow.contains p.1&&p.1 != i)=true):VD n w' v:=by
 obtain ⟨g,o,rfl,h2⟩:=h
 rw [Bool.and_eq_true] at hb
 rcases hE.int _ _ _ h2 with ⟨p,hp,u,k1,k2,_,k4⟩ | k
 · have h3:=List.all_eq_true.1 hb.2 p hp
   rw [Bool.and_eq_true,bne_iff_ne] at h3
   have:=hC.apart i (List.contains_iff_mem.1 hb.1) p.1 (List.contains_iff_mem.1 h3.1) (Ne.symm h3.2) _ _ g hi k1 rfl k2
   omega
 · exact ⟨g,o,rfl,k⟩
theorem VM.stable {base a:Nat} {w0:World} {ow:List Nat} {wr:List (Nat × Nat)} {γ:Gh} {w w':World} {v x:Value} {n:Int} (i k:Nat) (h:VM base a n γ w v) (hC:GC base w0 ow γ w) (hE:GE base wr γ w w') (hk:γ k=none) (hi:γ i=some v) (hb:(ow.contains a&&wr.all fun p=>ow.contains p.1&&(p.1 != a||p.2==i))=true):VM base a n (γ.upd k x) w' v:=by
 obtain ⟨g,rfl,h1,h2,h3⟩:=h
 rw [Bool.and_eq_true] at hb
 rcases hE.int _ _ _ h3 with ⟨p,hp,u,k1,k2,k3,k4⟩ | k5
 · have h4:=List.all_eq_true.1 hb.2 p hp
   rw [Bool.and_eq_true,Bool.or_eq_true,bne_iff_ne,beq_iff_eq] at h4
   by_cases e:p.1=a
   · have:p.2=i:=by rcases h4.2 with h5 | h5; exact absurd e h5; exact h5
     rw [this,hi] at k3
     cases k3
   · have:=hC.apart a (List.contains_iff_mem.1 hb.1) p.1 (List.contains_iff_mem.1 h4.1) (Ne.symm e) _ _ g h1 k1 rfl k2
     omega
 · exact ⟨g,rfl,upd_some h1 hk,h2,k5⟩
def wl (n:Int):Nat:=(dig n.natAbs).length
theorem wl_mul (n m:Int):wl (n*m)≤wl n+wl m:=by
 unfold wl
 refine dig_len_le _ _ ?_
 rw [Int.natAbs_mul,Nat.pow_add]
 exact Nat.mul_lt_mul'' (dig_lt _) (dig_lt _)
theorem wl_add (n m:Int):wl (n+m)≤max (wl n) (wl m)+1:=by
 unfold wl
 refine dig_len_le _ _ ?_
 have h1:=dig_lt n.natAbs
 have h2:=dig_lt m.natAbs
 have h3:4294967296^(dig n.natAbs).length≤4294967296^(max (dig n.natAbs).length (dig m.natAbs).length):=Nat.pow_le_pow_right (by decide) (Nat.le_max_left _ _)
 have h4:4294967296^(dig m.natAbs).length≤4294967296^(max (dig n.natAbs).length (dig m.natAbs).length):=Nat.pow_le_pow_right (by decide) (Nat.le_max_right _ _)
 have h5:=Int.natAbs_add_le n m
 rw [Nat.pow_succ]
 generalize 4294967296^(max (dig n.natAbs).length (dig m.natAbs).length)=M at *
 omega
theorem wl_neg (n:Int):wl (-n)=wl n:=by simp [wl]
theorem wl_sub (n m:Int):wl (n-m)≤max (wl n) (wl m)+1:=by
 have:=wl_add n (-m)
 rw [wl_neg] at this
 rwa [Int.sub_eq_add_neg]
def OkR (q:Rat):Prop:=wl q.num≤1073741824∧wl q.den≤1073741824
theorem OkR.num {q:Rat} (h:OkR q):Okn q.num:=Nat.le_trans h.1 (by decide)
theorem OkR.den {q:Rat} (h:OkR q):Okn q.den:=Nat.le_trans h.2 (by decide)
theorem okn_mul {n m:Int} (h:wl n≤1073741824) (k:wl m≤1073741824):Okn (n*m):=by
 have:=wl_mul n m
 show wl _≤_
 omega
theorem okn_add {n m a b:Int} (h:wl n≤1073741824) (k:wl m≤1073741824) (h':wl a≤1073741824) (k':wl b≤1073741824):Okn (n*m+a*b):=by
 have h1:=wl_mul n m
 have h2:=wl_mul a b
 have h3:=wl_add (n*m) (a*b)
 show wl _≤_
 omega
theorem okn_sub {n m a b:Int} (h:wl n≤1073741824) (k:wl m≤1073741824) (h':wl a≤1073741824) (k':wl b≤1073741824):Okn (n*m-a*b):=by
 have h1:=wl_mul n m
 have h2:=wl_mul a b
 have h3:=wl_sub (n*m) (a*b)
 show wl _≤_
 omega
theorem RatAt.num {w:World} {b o:Nat} {q:Rat} (h:RatAt w b o q):IntAt w b o q.num:=h.2.1
theorem den_ne (x:Rat):(x.den:Int)≠0:=by have:=x.den_pos; omega
theorem divInt_mul (x y:Rat):Rat.divInt (x.num*y.num) ((x.den:Int)*y.den)=x*y:=by
 rw [← Rat.divInt_mul_divInt,Rat.num_divInt_den,Rat.num_divInt_den]
set_option maxHeartbeats 1600000 in
set_option maxRecDepth 100000 in
theorem rMul_any {w:World} {b o c p d q:Nat} {x y:Rat} (hz:Slot w b o 4) (hx:RatAt w c p x) (hy:RatAt w d q y) (kx:OkR x) (ky:OkR y) :
  Calls Tryz.prog 171 #[.pointer (some ⟨b,o,none⟩),.pointer (some ⟨c,p,none⟩),.pointer (some ⟨d,q,none⟩)] w fun e w'=>e=.returned (.pointer (some ⟨b,o,none⟩))∧RatAt w' b o (x*y)∧Touch w w' b o 4:=by
 have HX:=Lib.hid hx
 have HY:=Lib.hid hy
 have HZ:=Lib.hid hz
 have KX:=Lib.hid kx
 have KY:=Lib.hid ky
 clear hx hy hz kx ky
 go_enter Tryz.func171,Tryz.ntmps171
 go_wp2
 refine wp_region_ghost 15 (GC w.heap.size w [1,9,11,13]) (fun γ wq _ wr=>GE w.heap.size [(1,8),(9,14)] γ wq wr) (fun i γ wq v=>match i with
   | 0=>v=.pointer (some ⟨b,o,none⟩)
   | 1=>VA w.heap.size wq v
   | 2=>v=.pointer (some ⟨c,p,none⟩)
   | 3=>v=.pointer (some ⟨c,p,none⟩)
   | 4=>v=.pointer (some ⟨c,p,none⟩)
   | 5=>v=.pointer (some ⟨d,q,none⟩)
   | 6=>v=.pointer (some ⟨d,q,none⟩)
   | 7=>v=.pointer (some ⟨d,q,none⟩)
   | 8=>VM w.heap.size 1 (x.num*y.num) γ wq v
   | 9=>VA w.heap.size wq v
   | 10=>v=.pointer (some ⟨c,p,none⟩)
   | 11=>VD ((x).den:Int) wq v
   | 12=>v=.pointer (some ⟨d,q,none⟩)
   | 13=>VD ((y).den:Int) wq v
   | 14=>VM w.heap.size 9 ((x.den:Int)*y.den) γ wq v
   | _=>True) (by kernel_rfl) (by kernel_rfl) (by kernel_rfl) (GC.start _ (Nat.le_refl _)) ?_ ⟨?_,?_,?_,?_,?_,?_,?_,?_,?_,?_,?_,?_,?_,?_,?_,trivial⟩ ?_
 · intro i γ w1 k xq w2 v hC hC2 hE hk hi hV
   match i with
   | 0=>exact hV
   | 1=>exact VA.stable hV hE
   | 2=>exact hV
   | 3=>exact hV
   | 4=>exact hV
   | 5=>exact hV
   | 6=>exact hV
   | 7=>exact hV
   | 8=>exact VM.stable 8 k hV hC hE hk hi rfl
   | 9=>exact VA.stable hV hE
   | 10=>exact hV
   | 11=>exact VD.stable 11 hV hC hE hi rfl
   | 12=>exact hV
   | 13=>exact VD.stable 13 hV hC hE hi rfl
   | 14=>exact VM.stable 14 k hV hC hE hk hi rfl
   | _+15=>trivial
 · intro a' γ w' hag hC hk hd K hK
   have e0:a'.tmps.getD 0 undef=.pointer (some ⟨b,o,none⟩):=hag 0 rfl
   go_step
   exact hK _ _ (hC.step 0 _ rfl (Below.refl _ _)) (GE.refl _ _ _ _) rfl
 · intro a' γ w' hag hC hk hd K hK
   have hb:Below w'.heap.size w' (w'.alloc (.cells #[.bool false,.slice none 0 0] 186)):=(Below.refl _ _).alloc (Nat.le_refl _) _
   have HK:=Lib.hid (hK (.pointer (some ⟨w'.heap.size,0,none⟩)) _ (hC.own 1 _ _ hb (IntAt.new w').lt (.inr (Nat.le_refl _))) (GE.below _ _ hb) ⟨_,rfl,hC.size,(IntAt.new w').slot⟩)
   clear hb hK hC
   go_step
   exact HK.out
 · intro a' γ w' hag hC hk hd K hK
   have e1:a'.tmps.getD 1 undef=.pointer (some ⟨c,p,none⟩):=hag 1 rfl
   go_step
   exact hK _ _ (hC.step 2 _ rfl (Below.refl _ _)) (GE.refl _ _ _ _) rfl
 · intro a' γ w' hag hC hk hd K hK
   have e9:a'.tmps.getD 9 undef=.pointer (some ⟨c,p,none⟩):=hd.1.2
   go_step
   exact hK _ _ (hC.step 3 _ rfl (Below.refl _ _)) (GE.refl _ _ _ _) rfl
 · intro a' γ w' hag hC hk hd K hK
   have e10:a'.tmps.getD 10 undef=.pointer (some ⟨c,p,none⟩):=hd.1.2
   go_step
   exact hK _ _ (hC.step 4 _ rfl (Below.refl _ _)) (GE.refl _ _ _ _) rfl
 · intro a' γ w' hag hC hk hd K hK
   have e2:a'.tmps.getD 2 undef=.pointer (some ⟨d,q,none⟩):=hag 2 rfl
   go_step
   exact hK _ _ (hC.step 5 _ rfl (Below.refl _ _)) (GE.refl _ _ _ _) rfl
 · intro a' γ w' hag hC hk hd K hK
   have e12:a'.tmps.getD 12 undef=.pointer (some ⟨d,q,none⟩):=hd.1.2
   go_step
   exact hK _ _ (hC.step 6 _ rfl (Below.refl _ _)) (GE.refl _ _ _ _) rfl
 · intro a' γ w' hag hC hk hd K hK
   have e13:a'.tmps.getD 13 undef=.pointer (some ⟨d,q,none⟩):=hd.1.2
   go_step
   exact hK _ _ (hC.step 7 _ rfl (Below.refl _ _)) (GE.refl _ _ _ _) rfl
 · intro a' γ w' hag hC hk hd K hK
   have q8:VA w.heap.size w' (a'.tmps.getD 8 undef):=hd.1.2
   have gg8:γ 1=some (a'.tmps.getD 8 undef):=hd.1.1
   obtain ⟨g8,e8,hb8,hs8⟩:=q8
   rw [e8] at gg8
   have e8:a'.tmps.getD 8 undef=.pointer (some ⟨g8,0,none⟩):=e8
   have e11:a'.tmps.getD 11 undef=.pointer (some ⟨c,p,none⟩):=hd.2.1.2
   have e14:a'.tmps.getD 14 undef=.pointer (some ⟨d,q,none⟩):=hd.2.2.1.2
   have hx:=Lib.hid (mul_any hs8 (HX.out.on hC.below).num (HY.out.on hC.below).num KX.out.num KY.out.num)
   go_step
   refine hx.out.mono ?_
   rintro e w2 ⟨rfl,h1,h2⟩
   exact hK _ _ (hC.step 8 _ rfl (h2.below hb8 hC.size)) (GE.write 1 8 rfl hs8 h2 gg8 hk hb8) ⟨_,rfl,upd_some gg8 hk,hb8,h1⟩
 · intro a' γ w' hag hC hk hd K hK
   have hb:Below w'.heap.size w' (w'.alloc (.cells #[.bool false,.slice none 0 0] 186)):=(Below.refl _ _).alloc (Nat.le_refl _) _
   have HK:=Lib.hid (hK (.pointer (some ⟨w'.heap.size,0,none⟩)) _ (hC.own 9 _ _ hb (IntAt.new w').lt (.inr (Nat.le_refl _))) (GE.below _ _ hb) ⟨_,rfl,hC.size,(IntAt.new w').slot⟩)
   clear hb hK hC
   go_step
   exact HK.out
 · intro a' γ w' hag hC hk hd K hK
   have e1:a'.tmps.getD 1 undef=.pointer (some ⟨c,p,none⟩):=hag 1 rfl
   go_step
   exact hK _ _ (hC.step 10 _ rfl (Below.refl _ _)) (GE.refl _ _ _ _) rfl
 · intro a' γ w' hag hC hk hd K hK
   have e17:a'.tmps.getD 17 undef=.pointer (some ⟨c,p,none⟩):=hd.1.2
   have hx:=HX.out.on hC.below
   go_step
   refine (den_any hx).mono ?_
   rintro e w2 ⟨g,j,rfl,h1,h2,h3⟩
   exact hK _ _ (hC.own 11 _ _ h2 h1.lt (h3.imp (fun e=>by rw [e]; exact HX.out.lt) id)) (GE.below _ _ h2) ⟨_,_,rfl,h1⟩
 · intro a' γ w' hag hC hk hd K hK
   have e2:a'.tmps.getD 2 undef=.pointer (some ⟨d,q,none⟩):=hag 2 rfl
   go_step
   exact hK _ _ (hC.step 12 _ rfl (Below.refl _ _)) (GE.refl _ _ _ _) rfl
 · intro a' γ w' hag hC hk hd K hK
   have e19:a'.tmps.getD 19 undef=.pointer (some ⟨d,q,none⟩):=hd.1.2
   have hx:=HY.out.on hC.below
   go_step
   refine (den_any hx).mono ?_
   rintro e w2 ⟨g,j,rfl,h1,h2,h3⟩
   exact hK _ _ (hC.own 13 _ _ h2 h1.lt (h3.imp (fun e=>by rw [e]; exact HY.out.lt) id)) (GE.below _ _ h2) ⟨_,_,rfl,h1⟩
 · intro a' γ w' hag hC hk hd K hK
   have q16:VA w.heap.size w' (a'.tmps.getD 16 undef):=hd.1.2
   have gg16:γ 9=some (a'.tmps.getD 16 undef):=hd.1.1
   obtain ⟨g16,e16,hb16,hs16⟩:=q16
   rw [e16] at gg16
   have e16:a'.tmps.getD 16 undef=.pointer (some ⟨g16,0,none⟩):=e16
   have q18:VD ((x).den:Int) w' (a'.tmps.getD 18 undef):=hd.2.1.2
   have gg18:γ 11=some (a'.tmps.getD 18 undef):=hd.2.1.1
   obtain ⟨g18,i18,e18,h18⟩:=q18
   rw [e18] at gg18
   have e18:a'.tmps.getD 18 undef=.pointer (some ⟨g18,i18,none⟩):=e18
   have q20:VD ((y).den:Int) w' (a'.tmps.getD 20 undef):=hd.2.2.1.2
   have gg20:γ 13=some (a'.tmps.getD 20 undef):=hd.2.2.1.1
   obtain ⟨g20,i20,e20,h20⟩:=q20
   rw [e20] at gg20
   have e20:a'.tmps.getD 20 undef=.pointer (some ⟨g20,i20,none⟩):=e20
   have hx:=Lib.hid (mul_any hs16 h18 h20 KX.out.den KY.out.den)
   go_step
   refine hx.out.mono ?_
   rintro e w2 ⟨rfl,h1,h2⟩
   exact hK _ _ (hC.step 14 _ rfl (h2.below hb16 hC.size)) (GE.write 9 14 rfl hs16 h2 gg16 hk hb16) ⟨_,rfl,upd_some gg16 hk,hb16,h1⟩
 · intro γ u w' hC hgh hall
   obtain ⟨u0,u1,u2,u3,u4,u5,u6,u7,u8,u9,u10,u11,u12,u13,u14,_⟩:=hall
   have u0:u 0=.pointer (some ⟨b,o,none⟩):=u0
   have u2:u 2=.pointer (some ⟨c,p,none⟩):=u2
   have u3:u 3=.pointer (some ⟨c,p,none⟩):=u3
   have u4:u 4=.pointer (some ⟨c,p,none⟩):=u4
   have u5:u 5=.pointer (some ⟨d,q,none⟩):=u5
   have u6:u 6=.pointer (some ⟨d,q,none⟩):=u6
   have u7:u 7=.pointer (some ⟨d,q,none⟩):=u7
   obtain ⟨g15,eu8,ga15,hb15,h15⟩:=u8
   have u8:u 8=.pointer (some ⟨g15,0,none⟩):=eu8
   have u10:u 10=.pointer (some ⟨c,p,none⟩):=u10
   have u12:u 12=.pointer (some ⟨d,q,none⟩):=u12
   obtain ⟨g21,eu14,ga21,hb21,h21⟩:=u14
   have u14:u 14=.pointer (some ⟨g21,0,none⟩):=eu14
   simp only [fillR,List.take_succ_cons,List.take_zero,Act.put,List.setIfInBounds_toArray,List.set_cons_succ,List.set_cons_zero,Nat.zero_add,Nat.reduceAdd,u0,u2,u3,u4,u5,u6,u7,u8,u10,u12,u14]
   clear u0 u2 u3 u4 u5 u6 u7 u8 u10 u12 u14
   have HC:=Lib.hid hC
   have H15:=Lib.hid h15
   have H21:=Lib.hid h21
   clear hC h15 h21 ga15 ga21 hb15 hb21
   go_wp2_with fail
   refine (SetFrac_any (HZ.out.on HC.out.below) H15.out H21.out (Int.mul_ne_zero (den_ne x) (den_ne y)) (okn_mul KX.out.1 KY.out.1) (okn_mul KX.out.2 KY.out.2)).mono ?_
   rintro e w3 ⟨rfl,h1,h2⟩
   rw [divInt_mul] at h1
   have H1:=Lib.hid h1
   have HT:=Lib.hid ((Touch.of_below HC.out.below b o 4).trans h2)
   clear h1 h2
   go_wp2
   go_ret
   exact ⟨rfl,H1.out,HT.out⟩
theorem divInt_Add (x y:Rat):Rat.divInt (x.num*(y.den:Int)+y.num*(x.den:Int)) ((x.den:Int)*(y.den:Int))=x+y:=by
 rw [Rat.add_def',← Int.natCast_mul]; rfl
set_option maxHeartbeats 1600000 in
set_option maxRecDepth 100000 in
theorem rAdd_any {w:World} {b o c p d q:Nat} {x y:Rat} (hz:Slot w b o 4) (hx:RatAt w c p x) (hy:RatAt w d q y) (kx:OkR x) (ky:OkR y) :
  Calls Tryz.prog 255 #[.pointer (some ⟨b,o,none⟩),.pointer (some ⟨c,p,none⟩),.pointer (some ⟨d,q,none⟩)] w fun e w'=>e=.returned (.pointer (some ⟨b,o,none⟩))∧RatAt w' b o (x+y)∧Touch w w' b o 4:=by
 have HX:=Lib.hid hx
 have HY:=Lib.hid hy
 have HZ:=Lib.hid hz
 have KX:=Lib.hid kx
 have KY:=Lib.hid ky
 clear hx hy hz kx ky
 go_enter Tryz.func255,Tryz.ntmps255
 go_wp2
 refine wp_region_ghost 6 (GC w.heap.size w [0,5]) (fun γ wq _ wr=>GE w.heap.size [] γ wq wr) (fun i γ wq v=>match i with
   | 0=>VA w.heap.size wq v
   | 1=>v=.pointer (some ⟨c,p,none⟩)
   | 2=>v=.pointer (some ⟨c,p,none⟩)
   | 3=>v=.pointer (some ⟨c,p,none⟩)
   | 4=>v=.pointer (some ⟨d,q,none⟩)
   | 5=>VD ((y).den:Int) wq v
   | _=>True) (by kernel_rfl) (by kernel_rfl) (by kernel_rfl) (GC.start _ (Nat.le_refl _)) ?_ ⟨?_,?_,?_,?_,?_,?_,trivial⟩ ?_
 · intro i γ w1 k xq w2 v hC hC2 hE hk hi hV
   match i with
   | 0=>exact VA.stable hV hE
   | 1=>exact hV
   | 2=>exact hV
   | 3=>exact hV
   | 4=>exact hV
   | 5=>exact VD.stable 5 hV hC hE hi rfl
   | _+6=>trivial
 · intro a' γ w' hag hC hk hd K hK
   have hb:Below w'.heap.size w' (w'.alloc (.cells #[.bool false,.slice none 0 0] 186)):=(Below.refl _ _).alloc (Nat.le_refl _) _
   have HK:=Lib.hid (hK (.pointer (some ⟨w'.heap.size,0,none⟩)) _ (hC.own 0 _ _ hb (IntAt.new w').lt (.inr (Nat.le_refl _))) (GE.below _ _ hb) ⟨_,rfl,hC.size,(IntAt.new w').slot⟩)
   clear hb hK hC
   go_step
   exact HK.out
 · intro a' γ w' hag hC hk hd K hK
   have e1:a'.tmps.getD 1 undef=.pointer (some ⟨c,p,none⟩):=hag 1 rfl
   go_step
   exact hK _ _ (hC.step 1 _ rfl (Below.refl _ _)) (GE.refl _ _ _ _) rfl
 · intro a' γ w' hag hC hk hd K hK
   have e9:a'.tmps.getD 9 undef=.pointer (some ⟨c,p,none⟩):=hd.1.2
   go_step
   exact hK _ _ (hC.step 2 _ rfl (Below.refl _ _)) (GE.refl _ _ _ _) rfl
 · intro a' γ w' hag hC hk hd K hK
   have e10:a'.tmps.getD 10 undef=.pointer (some ⟨c,p,none⟩):=hd.1.2
   go_step
   exact hK _ _ (hC.step 3 _ rfl (Below.refl _ _)) (GE.refl _ _ _ _) rfl
 · intro a' γ w' hag hC hk hd K hK
   have e2:a'.tmps.getD 2 undef=.pointer (some ⟨d,q,none⟩):=hag 2 rfl
   go_step
   exact hK _ _ (hC.step 4 _ rfl (Below.refl _ _)) (GE.refl _ _ _ _) rfl
 · intro a' γ w' hag hC hk hd K hK
   have e12:a'.tmps.getD 12 undef=.pointer (some ⟨d,q,none⟩):=hd.1.2
   have hx:=HY.out.on hC.below
   go_step
   refine (den_any hx).mono ?_
   rintro e w2 ⟨g,j,rfl,h1,h2,h3⟩
   exact hK _ _ (hC.own 5 _ _ h2 h1.lt (h3.imp (fun e=>by rw [e]; exact HY.out.lt) id)) (GE.below _ _ h2) ⟨_,_,rfl,h1⟩
 · intro γ u w' hC hgh hall
   obtain ⟨u0,u1,u2,u3,u4,u5,_⟩:=hall
   obtain ⟨g8,eu0,hb8,hs8⟩:=u0
   have u0:u 0=.pointer (some ⟨g8,0,none⟩):=eu0
   have u1:u 1=.pointer (some ⟨c,p,none⟩):=u1
   have u2:u 2=.pointer (some ⟨c,p,none⟩):=u2
   have u3:u 3=.pointer (some ⟨c,p,none⟩):=u3
   have u4:u 4=.pointer (some ⟨d,q,none⟩):=u4
   obtain ⟨g13,i13,eu5,h13⟩:=u5
   have u5:u 5=.pointer (some ⟨g13,i13,none⟩):=eu5
   simp only [fillR,List.take_succ_cons,List.take_zero,Act.put,List.setIfInBounds_toArray,List.set_cons_succ,List.set_cons_zero,Nat.zero_add,Nat.reduceAdd,u0,u1,u2,u3,u4,u5]
   clear u0 u1 u2 u3 u4 u5
   have HC:=Lib.hid hC.below
   have HB8:=Lib.hid hb8
   have HS8:=Lib.hid hs8
   have H13:=Lib.hid h13
   have hx1:=HX.out.on HC.out
   clear hC hb8 hs8 h13
   go_wp2_with fail
   refine (mul_any HS8.out hx1.num H13.out KX.out.num KY.out.den).mono ?_
   rintro e w1 ⟨rfl,h1,h2⟩
   have HB1:Hid (Below w.heap.size w w1):=HC.out.trans (h2.below HB8.out HC.out.size)
   have H1:=Lib.hid h1
   clear h1 h2 hx1 H13 HS8 HC
   have HX1:=Lib.hid (HX.out.on HB1.out)
   have HY1:=Lib.hid (HY.out.on HB1.out)
   go_wp2
   refine wp_region_ghost 9 (GC w1.heap.size w1 [2,7]) (fun γ wq _ wr=>GE w1.heap.size [(2,8)] γ wq wr) (fun i γ wq v=>match i with
     | 0=>v=.pointer (some ⟨g8,0,none⟩)
     | 1=>v=.pointer (some ⟨g8,0,none⟩)
     | 2=>VA w1.heap.size wq v
     | 3=>v=.pointer (some ⟨d,q,none⟩)
     | 4=>v=.pointer (some ⟨d,q,none⟩)
     | 5=>v=.pointer (some ⟨d,q,none⟩)
     | 6=>v=.pointer (some ⟨c,p,none⟩)
     | 7=>VD ((x).den:Int) wq v
     | 8=>VM w1.heap.size 2 (y.num*(x.den:Int)) γ wq v
     | _=>True) (by kernel_rfl) (by kernel_rfl) (by kernel_rfl) (GC.start _ (Nat.le_refl _)) ?_ ⟨?_,?_,?_,?_,?_,?_,?_,?_,?_,trivial⟩ ?_
   · intro i γ w1 k xq w2 v hC hC2 hE hk hi hV
     match i with
     | 0=>exact hV
     | 1=>exact hV
     | 2=>exact VA.stable hV hE
     | 3=>exact hV
     | 4=>exact hV
     | 5=>exact hV
     | 6=>exact hV
     | 7=>exact VD.stable 7 hV hC hE hi rfl
     | 8=>exact VM.stable 8 k hV hC hE hk hi rfl
     | _+9=>trivial
   · intro a' γ w' hag hC hk hd K hK
     have e7:a'.tmps.getD 7 undef=.pointer (some ⟨g8,0,none⟩):=hag 7 rfl
     go_step
     exact hK _ _ (hC.step 0 _ rfl (Below.refl _ _)) (GE.refl _ _ _ _) rfl
   · intro a' γ w' hag hC hk hd K hK
     have e7:a'.tmps.getD 7 undef=.pointer (some ⟨g8,0,none⟩):=hag 7 rfl
     go_step
     exact hK _ _ (hC.step 1 _ rfl (Below.refl _ _)) (GE.refl _ _ _ _) rfl
   · intro a' γ w' hag hC hk hd K hK
     have hb:Below w'.heap.size w' (w'.alloc (.cells #[.bool false,.slice none 0 0] 186)):=(Below.refl _ _).alloc (Nat.le_refl _) _
     have HK:=Lib.hid (hK (.pointer (some ⟨w'.heap.size,0,none⟩)) _ (hC.own 2 _ _ hb (IntAt.new w').lt (.inr (Nat.le_refl _))) (GE.below _ _ hb) ⟨_,rfl,hC.size,(IntAt.new w').slot⟩)
     clear hb hK hC
     go_step
     exact HK.out
   · intro a' γ w' hag hC hk hd K hK
     have e2:a'.tmps.getD 2 undef=.pointer (some ⟨d,q,none⟩):=hag 2 rfl
     go_step
     exact hK _ _ (hC.step 3 _ rfl (Below.refl _ _)) (GE.refl _ _ _ _) rfl
   · intro a' γ w' hag hC hk hd K hK
     have e18:a'.tmps.getD 18 undef=.pointer (some ⟨d,q,none⟩):=hd.1.2
     go_step
     exact hK _ _ (hC.step 4 _ rfl (Below.refl _ _)) (GE.refl _ _ _ _) rfl
   · intro a' γ w' hag hC hk hd K hK
     have e19:a'.tmps.getD 19 undef=.pointer (some ⟨d,q,none⟩):=hd.1.2
     go_step
     exact hK _ _ (hC.step 5 _ rfl (Below.refl _ _)) (GE.refl _ _ _ _) rfl
   · intro a' γ w' hag hC hk hd K hK
     have e1:a'.tmps.getD 1 undef=.pointer (some ⟨c,p,none⟩):=hag 1 rfl
     go_step
     exact hK _ _ (hC.step 6 _ rfl (Below.refl _ _)) (GE.refl _ _ _ _) rfl
   · intro a' γ w' hag hC hk hd K hK
     have e21:a'.tmps.getD 21 undef=.pointer (some ⟨c,p,none⟩):=hd.1.2
     have hx:=HX1.out.on hC.below
     go_step
     refine (den_any hx).mono ?_
     rintro e w2 ⟨g,j,rfl,h1,h2,h3⟩
     exact hK _ _ (hC.own 7 _ _ h2 h1.lt (h3.imp (fun e=>by rw [e]; exact HX1.out.lt) id)) (GE.below _ _ h2) ⟨_,_,rfl,h1⟩
   · intro a' γ w' hag hC hk hd K hK
     have q17:VA w1.heap.size w' (a'.tmps.getD 17 undef):=hd.1.2
     have gg17:γ 2=some (a'.tmps.getD 17 undef):=hd.1.1
     obtain ⟨g17,e17,hb17,hs17⟩:=q17
     rw [e17] at gg17
     have e17:a'.tmps.getD 17 undef=.pointer (some ⟨g17,0,none⟩):=e17
     have e20:a'.tmps.getD 20 undef=.pointer (some ⟨d,q,none⟩):=hd.2.1.2
     have q22:VD ((x).den:Int) w' (a'.tmps.getD 22 undef):=hd.2.2.1.2
     have gg22:γ 7=some (a'.tmps.getD 22 undef):=hd.2.2.1.1
     obtain ⟨g22,i22,e22,h22⟩:=q22
     rw [e22] at gg22
     have e22:a'.tmps.getD 22 undef=.pointer (some ⟨g22,i22,none⟩):=e22
     have hx:=Lib.hid (mul_any hs17 (HY1.out.on hC.below).num h22 KY.out.num KX.out.den)
     go_step
     refine hx.out.mono ?_
     rintro e w2 ⟨rfl,h1,h2⟩
     exact hK _ _ (hC.step 8 _ rfl (h2.below hb17 hC.size)) (GE.write 2 8 rfl hs17 h2 gg17 hk hb17) ⟨_,rfl,upd_some gg17 hk,hb17,h1⟩
   · intro γ u w' hC hgh hall
     obtain ⟨u0,u1,u2,u3,u4,u5,u6,u7,u8,_⟩:=hall
     have u0:u 0=.pointer (some ⟨g8,0,none⟩):=u0
     have u1:u 1=.pointer (some ⟨g8,0,none⟩):=u1
     have u3:u 3=.pointer (some ⟨d,q,none⟩):=u3
     have u4:u 4=.pointer (some ⟨d,q,none⟩):=u4
     have u5:u 5=.pointer (some ⟨d,q,none⟩):=u5
     have u6:u 6=.pointer (some ⟨c,p,none⟩):=u6
     obtain ⟨g23,eu8,ga23,hb23,h23⟩:=u8
     have u8:u 8=.pointer (some ⟨g23,0,none⟩):=eu8
     simp only [fillR,List.take_succ_cons,List.take_zero,Act.put,List.setIfInBounds_toArray,List.set_cons_succ,List.set_cons_zero,Nat.zero_add,Nat.reduceAdd,u0,u1,u3,u4,u5,u6,u8]
     clear u0 u1 u3 u4 u5 u6 u8
     have HC2:=Lib.hid hC.below
     have H23:=Lib.hid h23
     have h1':=H1.out.on HC2.out
     clear hC h23 ga23 hb23
     go_wp2_with fail
     refine (Add_any h1'.slot h1' H23.out (okn_mul KX.out.1 KY.out.2) (okn_mul KY.out.1 KX.out.2)).mono ?_
     rintro e w3 ⟨rfl,h2,h3⟩
     have HB3:Hid (Below w.heap.size w w3):=(HB1.out.trans (HC2.out.mono HB1.out.size)).trans (h3.below HB8.out (Nat.le_trans HB1.out.size HC2.out.size))
     have HN:=Lib.hid h2
     clear h1' h2 h3 H23 HC2 HX1 HY1 HB1 H1
     have ha:Below w3.heap.size w3 (w3.alloc (.cells #[.bool false,.slice none 0 0] 186)):=(Below.refl _ _).alloc (Nat.le_refl _) _
     have hx3:=(HX.out.on HB3.out).on ha
     go_wp2_with fail
     refine (den_any hx3).mono ?_
     rintro e w4 ⟨gx,ix,rfl,h1,h2,h3⟩
     have hb4:=ha.trans (h2.mono ha.size)
     have HB4:=Lib.hid hb4
     have HDX:=Lib.hid h1
     have HNX:Hid (gx≠w3.heap.size):=by
      have h4:=ha.size
      have h5:=HX.out.lt
      have h6:=HB3.out.size
      have h7:(w3.alloc (.cells #[.bool false,.slice none 0 0] 186)).heap.size=w3.heap.size+1:=by simp [World.alloc_eq]
      unfold Hid
      omega
     have HS:Hid (Slot w4 w3.heap.size 0 2):=(IntAt.new w3).slot.on h2
     clear h1 h2 h3 hx3 ha hb4
     have hy4:=(HY.out.on HB3.out).on HB4.out
     go_wp2_with fail
     refine (den_any hy4).mono ?_
     rintro e w5 ⟨gy,iy,rfl,h1,h2,h3⟩
     have hs5:=HS.out.on h2
     have hd5:=HDX.out.on h2
     have HB5:Hid (Below w3.heap.size w3 w5):=HB4.out.trans (h2.mono HB4.out.size)
     have HDY:=Lib.hid h1
     clear h1 h2 h3 hy4
     go_wp2_with fail
     refine (mul_any hs5 hd5 HDY.out KX.out.den KY.out.den).mono ?_
     rintro e w6 ⟨rfl,h1,h2⟩
     have HB6:Hid (Below w3.heap.size w3 w6):=HB5.out.trans (h2.below (Nat.le_refl _) HB5.out.size)
     have HD:=Lib.hid h1
     clear h1 h2 hs5 hd5 HDX HDY HS HB4 HB5 HNX
     have hz6:=(HZ.out.on HB3.out).on HB6.out
     have hn6:=HN.out.on HB6.out
     go_wp2_with fail
     refine (SetFrac_any hz6 hn6 HD.out (Int.mul_ne_zero (den_ne x) (den_ne y)) (okn_add KX.out.1 KY.out.2 KY.out.1 KX.out.2) (okn_mul KX.out.2 KY.out.2)).mono ?_
     rintro e w7 ⟨rfl,h1,h2⟩
     rw [divInt_Add] at h1
     have H1:=Lib.hid h1
     have HT:=Lib.hid ((Touch.of_below (HB3.out.trans (HB6.out.mono HB3.out.size)) b o 4).trans h2)
     clear h1 h2 hz6 hn6
     go_wp2
     go_ret
     exact ⟨rfl,H1.out,HT.out⟩
theorem divInt_Sub (x y:Rat):Rat.divInt (x.num*(y.den:Int)-y.num*(x.den:Int)) ((x.den:Int)*(y.den:Int))=x-y:=by
 rw [Rat.sub_def',← Int.natCast_mul]; rfl
set_option maxHeartbeats 1600000 in
set_option maxRecDepth 100000 in
theorem rSub_any {w:World} {b o c p d q:Nat} {x y:Rat} (hz:Slot w b o 4) (hx:RatAt w c p x) (hy:RatAt w d q y) (kx:OkR x) (ky:OkR y) :
  Calls Tryz.prog 168 #[.pointer (some ⟨b,o,none⟩),.pointer (some ⟨c,p,none⟩),.pointer (some ⟨d,q,none⟩)] w fun e w'=>e=.returned (.pointer (some ⟨b,o,none⟩))∧RatAt w' b o (x-y)∧Touch w w' b o 4:=by
 have HX:=Lib.hid hx
 have HY:=Lib.hid hy
 have HZ:=Lib.hid hz
 have KX:=Lib.hid kx
 have KY:=Lib.hid ky
 clear hx hy hz kx ky
 go_enter Tryz.func168,Tryz.ntmps168
 go_wp2
 refine wp_region_ghost 6 (GC w.heap.size w [0,5]) (fun γ wq _ wr=>GE w.heap.size [] γ wq wr) (fun i γ wq v=>match i with
   | 0=>VA w.heap.size wq v
   | 1=>v=.pointer (some ⟨c,p,none⟩)
   | 2=>v=.pointer (some ⟨c,p,none⟩)
   | 3=>v=.pointer (some ⟨c,p,none⟩)
   | 4=>v=.pointer (some ⟨d,q,none⟩)
   | 5=>VD ((y).den:Int) wq v
   | _=>True) (by kernel_rfl) (by kernel_rfl) (by kernel_rfl) (GC.start _ (Nat.le_refl _)) ?_ ⟨?_,?_,?_,?_,?_,?_,trivial⟩ ?_
 · intro i γ w1 k xq w2 v hC hC2 hE hk hi hV
   match i with
   | 0=>exact VA.stable hV hE
   | 1=>exact hV
   | 2=>exact hV
   | 3=>exact hV
   | 4=>exact hV
   | 5=>exact VD.stable 5 hV hC hE hi rfl
   | _+6=>trivial
 · intro a' γ w' hag hC hk hd K hK
   have hb:Below w'.heap.size w' (w'.alloc (.cells #[.bool false,.slice none 0 0] 186)):=(Below.refl _ _).alloc (Nat.le_refl _) _
   have HK:=Lib.hid (hK (.pointer (some ⟨w'.heap.size,0,none⟩)) _ (hC.own 0 _ _ hb (IntAt.new w').lt (.inr (Nat.le_refl _))) (GE.below _ _ hb) ⟨_,rfl,hC.size,(IntAt.new w').slot⟩)
   clear hb hK hC
   go_step
   exact HK.out
 · intro a' γ w' hag hC hk hd K hK
   have e1:a'.tmps.getD 1 undef=.pointer (some ⟨c,p,none⟩):=hag 1 rfl
   go_step
   exact hK _ _ (hC.step 1 _ rfl (Below.refl _ _)) (GE.refl _ _ _ _) rfl
 · intro a' γ w' hag hC hk hd K hK
   have e9:a'.tmps.getD 9 undef=.pointer (some ⟨c,p,none⟩):=hd.1.2
   go_step
   exact hK _ _ (hC.step 2 _ rfl (Below.refl _ _)) (GE.refl _ _ _ _) rfl
 · intro a' γ w' hag hC hk hd K hK
   have e10:a'.tmps.getD 10 undef=.pointer (some ⟨c,p,none⟩):=hd.1.2
   go_step
   exact hK _ _ (hC.step 3 _ rfl (Below.refl _ _)) (GE.refl _ _ _ _) rfl
 · intro a' γ w' hag hC hk hd K hK
   have e2:a'.tmps.getD 2 undef=.pointer (some ⟨d,q,none⟩):=hag 2 rfl
   go_step
   exact hK _ _ (hC.step 4 _ rfl (Below.refl _ _)) (GE.refl _ _ _ _) rfl
 · intro a' γ w' hag hC hk hd K hK
   have e12:a'.tmps.getD 12 undef=.pointer (some ⟨d,q,none⟩):=hd.1.2
   have hx:=HY.out.on hC.below
   go_step
   refine (den_any hx).mono ?_
   rintro e w2 ⟨g,j,rfl,h1,h2,h3⟩
   exact hK _ _ (hC.own 5 _ _ h2 h1.lt (h3.imp (fun e=>by rw [e]; exact HY.out.lt) id)) (GE.below _ _ h2) ⟨_,_,rfl,h1⟩
 · intro γ u w' hC hgh hall
   obtain ⟨u0,u1,u2,u3,u4,u5,_⟩:=hall
   obtain ⟨g8,eu0,hb8,hs8⟩:=u0
   have u0:u 0=.pointer (some ⟨g8,0,none⟩):=eu0
   have u1:u 1=.pointer (some ⟨c,p,none⟩):=u1
   have u2:u 2=.pointer (some ⟨c,p,none⟩):=u2
   have u3:u 3=.pointer (some ⟨c,p,none⟩):=u3
   have u4:u 4=.pointer (some ⟨d,q,none⟩):=u4
   obtain ⟨g13,i13,eu5,h13⟩:=u5
   have u5:u 5=.pointer (some ⟨g13,i13,none⟩):=eu5
   simp only [fillR,List.take_succ_cons,List.take_zero,Act.put,List.setIfInBounds_toArray,List.set_cons_succ,List.set_cons_zero,Nat.zero_add,Nat.reduceAdd,u0,u1,u2,u3,u4,u5]
   clear u0 u1 u2 u3 u4 u5
   have HC:=Lib.hid hC.below
   have HB8:=Lib.hid hb8
   have HS8:=Lib.hid hs8
   have H13:=Lib.hid h13
   have hx1:=HX.out.on HC.out
   clear hC hb8 hs8 h13
   go_wp2_with fail
   refine (mul_any HS8.out hx1.num H13.out KX.out.num KY.out.den).mono ?_
   rintro e w1 ⟨rfl,h1,h2⟩
   have HB1:Hid (Below w.heap.size w w1):=HC.out.trans (h2.below HB8.out HC.out.size)
   have H1:=Lib.hid h1
   clear h1 h2 hx1 H13 HS8 HC
   have HX1:=Lib.hid (HX.out.on HB1.out)
   have HY1:=Lib.hid (HY.out.on HB1.out)
   go_wp2
   refine wp_region_ghost 9 (GC w1.heap.size w1 [2,7]) (fun γ wq _ wr=>GE w1.heap.size [(2,8)] γ wq wr) (fun i γ wq v=>match i with
     | 0=>v=.pointer (some ⟨g8,0,none⟩)
     | 1=>v=.pointer (some ⟨g8,0,none⟩)
     | 2=>VA w1.heap.size wq v
     | 3=>v=.pointer (some ⟨d,q,none⟩)
     | 4=>v=.pointer (some ⟨d,q,none⟩)
     | 5=>v=.pointer (some ⟨d,q,none⟩)
     | 6=>v=.pointer (some ⟨c,p,none⟩)
     | 7=>VD ((x).den:Int) wq v
     | 8=>VM w1.heap.size 2 (y.num*(x.den:Int)) γ wq v
     | _=>True) (by kernel_rfl) (by kernel_rfl) (by kernel_rfl) (GC.start _ (Nat.le_refl _)) ?_ ⟨?_,?_,?_,?_,?_,?_,?_,?_,?_,trivial⟩ ?_
   · intro i γ w1 k xq w2 v hC hC2 hE hk hi hV
     match i with
     | 0=>exact hV
     | 1=>exact hV
     | 2=>exact VA.stable hV hE
     | 3=>exact hV
     | 4=>exact hV
     | 5=>exact hV
     | 6=>exact hV
     | 7=>exact VD.stable 7 hV hC hE hi rfl
     | 8=>exact VM.stable 8 k hV hC hE hk hi rfl
     | _+9=>trivial
   · intro a' γ w' hag hC hk hd K hK
     have e7:a'.tmps.getD 7 undef=.pointer (some ⟨g8,0,none⟩):=hag 7 rfl
     go_step
     exact hK _ _ (hC.step 0 _ rfl (Below.refl _ _)) (GE.refl _ _ _ _) rfl
   · intro a' γ w' hag hC hk hd K hK
     have e7:a'.tmps.getD 7 undef=.pointer (some ⟨g8,0,none⟩):=hag 7 rfl
     go_step
     exact hK _ _ (hC.step 1 _ rfl (Below.refl _ _)) (GE.refl _ _ _ _) rfl
   · intro a' γ w' hag hC hk hd K hK
     have hb:Below w'.heap.size w' (w'.alloc (.cells #[.bool false,.slice none 0 0] 186)):=(Below.refl _ _).alloc (Nat.le_refl _) _
     have HK:=Lib.hid (hK (.pointer (some ⟨w'.heap.size,0,none⟩)) _ (hC.own 2 _ _ hb (IntAt.new w').lt (.inr (Nat.le_refl _))) (GE.below _ _ hb) ⟨_,rfl,hC.size,(IntAt.new w').slot⟩)
     clear hb hK hC
     go_step
     exact HK.out
   · intro a' γ w' hag hC hk hd K hK
     have e2:a'.tmps.getD 2 undef=.pointer (some ⟨d,q,none⟩):=hag 2 rfl
     go_step
     exact hK _ _ (hC.step 3 _ rfl (Below.refl _ _)) (GE.refl _ _ _ _) rfl
   · intro a' γ w' hag hC hk hd K hK
     have e18:a'.tmps.getD 18 undef=.pointer (some ⟨d,q,none⟩):=hd.1.2
     go_step
     exact hK _ _ (hC.step 4 _ rfl (Below.refl _ _)) (GE.refl _ _ _ _) rfl
   · intro a' γ w' hag hC hk hd K hK
     have e19:a'.tmps.getD 19 undef=.pointer (some ⟨d,q,none⟩):=hd.1.2
     go_step
     exact hK _ _ (hC.step 5 _ rfl (Below.refl _ _)) (GE.refl _ _ _ _) rfl
   · intro a' γ w' hag hC hk hd K hK
     have e1:a'.tmps.getD 1 undef=.pointer (some ⟨c,p,none⟩):=hag 1 rfl
     go_step
     exact hK _ _ (hC.step 6 _ rfl (Below.refl _ _)) (GE.refl _ _ _ _) rfl
   · intro a' γ w' hag hC hk hd K hK
     have e21:a'.tmps.getD 21 undef=.pointer (some ⟨c,p,none⟩):=hd.1.2
     have hx:=HX1.out.on hC.below
     go_step
     refine (den_any hx).mono ?_
     rintro e w2 ⟨g,j,rfl,h1,h2,h3⟩
     exact hK _ _ (hC.own 7 _ _ h2 h1.lt (h3.imp (fun e=>by rw [e]; exact HX1.out.lt) id)) (GE.below _ _ h2) ⟨_,_,rfl,h1⟩
   · intro a' γ w' hag hC hk hd K hK
     have q17:VA w1.heap.size w' (a'.tmps.getD 17 undef):=hd.1.2
     have gg17:γ 2=some (a'.tmps.getD 17 undef):=hd.1.1
     obtain ⟨g17,e17,hb17,hs17⟩:=q17
     rw [e17] at gg17
     have e17:a'.tmps.getD 17 undef=.pointer (some ⟨g17,0,none⟩):=e17
     have e20:a'.tmps.getD 20 undef=.pointer (some ⟨d,q,none⟩):=hd.2.1.2
     have q22:VD ((x).den:Int) w' (a'.tmps.getD 22 undef):=hd.2.2.1.2
     have gg22:γ 7=some (a'.tmps.getD 22 undef):=hd.2.2.1.1
     obtain ⟨g22,i22,e22,h22⟩:=q22
     rw [e22] at gg22
     have e22:a'.tmps.getD 22 undef=.pointer (some ⟨g22,i22,none⟩):=e22
     have hx:=Lib.hid (mul_any hs17 (HY1.out.on hC.below).num h22 KY.out.num KX.out.den)
     go_step
     refine hx.out.mono ?_
     rintro e w2 ⟨rfl,h1,h2⟩
     exact hK _ _ (hC.step 8 _ rfl (h2.below hb17 hC.size)) (GE.write 2 8 rfl hs17 h2 gg17 hk hb17) ⟨_,rfl,upd_some gg17 hk,hb17,h1⟩
   · intro γ u w' hC hgh hall
     obtain ⟨u0,u1,u2,u3,u4,u5,u6,u7,u8,_⟩:=hall
     have u0:u 0=.pointer (some ⟨g8,0,none⟩):=u0
     have u1:u 1=.pointer (some ⟨g8,0,none⟩):=u1
     have u3:u 3=.pointer (some ⟨d,q,none⟩):=u3
     have u4:u 4=.pointer (some ⟨d,q,none⟩):=u4
     have u5:u 5=.pointer (some ⟨d,q,none⟩):=u5
     have u6:u 6=.pointer (some ⟨c,p,none⟩):=u6
     obtain ⟨g23,eu8,ga23,hb23,h23⟩:=u8
     have u8:u 8=.pointer (some ⟨g23,0,none⟩):=eu8
     simp only [fillR,List.take_succ_cons,List.take_zero,Act.put,List.setIfInBounds_toArray,List.set_cons_succ,List.set_cons_zero,Nat.zero_add,Nat.reduceAdd,u0,u1,u3,u4,u5,u6,u8]
     clear u0 u1 u3 u4 u5 u6 u8
     have HC2:=Lib.hid hC.below
     have H23:=Lib.hid h23
     have h1':=H1.out.on HC2.out
     clear hC h23 ga23 hb23
     go_wp2_with fail
     refine (Sub_any h1'.slot h1' H23.out (okn_mul KX.out.1 KY.out.2) (okn_mul KY.out.1 KX.out.2)).mono ?_
     rintro e w3 ⟨rfl,h2,h3⟩
     have HB3:Hid (Below w.heap.size w w3):=(HB1.out.trans (HC2.out.mono HB1.out.size)).trans (h3.below HB8.out (Nat.le_trans HB1.out.size HC2.out.size))
     have HN:=Lib.hid h2
     clear h1' h2 h3 H23 HC2 HX1 HY1 HB1 H1
     have ha:Below w3.heap.size w3 (w3.alloc (.cells #[.bool false,.slice none 0 0] 186)):=(Below.refl _ _).alloc (Nat.le_refl _) _
     have hx3:=(HX.out.on HB3.out).on ha
     go_wp2_with fail
     refine (den_any hx3).mono ?_
     rintro e w4 ⟨gx,ix,rfl,h1,h2,h3⟩
     have hb4:=ha.trans (h2.mono ha.size)
     have HB4:=Lib.hid hb4
     have HDX:=Lib.hid h1
     have HNX:Hid (gx≠w3.heap.size):=by
      have h4:=ha.size
      have h5:=HX.out.lt
      have h6:=HB3.out.size
      have h7:(w3.alloc (.cells #[.bool false,.slice none 0 0] 186)).heap.size=w3.heap.size+1:=by simp [World.alloc_eq]
      unfold Hid
      omega
     have HS:Hid (Slot w4 w3.heap.size 0 2):=(IntAt.new w3).slot.on h2
     clear h1 h2 h3 hx3 ha hb4
     have hy4:=(HY.out.on HB3.out).on HB4.out
     go_wp2_with fail
     refine (den_any hy4).mono ?_
     rintro e w5 ⟨gy,iy,rfl,h1,h2,h3⟩
     have hs5:=HS.out.on h2
     have hd5:=HDX.out.on h2
     have HB5:Hid (Below w3.heap.size w3 w5):=HB4.out.trans (h2.mono HB4.out.size)
     have HDY:=Lib.hid h1
     clear h1 h2 h3 hy4
     go_wp2_with fail
     refine (mul_any hs5 hd5 HDY.out KX.out.den KY.out.den).mono ?_
     rintro e w6 ⟨rfl,h1,h2⟩
     have HB6:Hid (Below w3.heap.size w3 w6):=HB5.out.trans (h2.below (Nat.le_refl _) HB5.out.size)
     have HD:=Lib.hid h1
     clear h1 h2 hs5 hd5 HDX HDY HS HB4 HB5 HNX
     have hz6:=(HZ.out.on HB3.out).on HB6.out
     have hn6:=HN.out.on HB6.out
     go_wp2_with fail
     refine (SetFrac_any hz6 hn6 HD.out (Int.mul_ne_zero (den_ne x) (den_ne y)) (okn_sub KX.out.1 KY.out.2 KY.out.1 KX.out.2) (okn_mul KX.out.2 KY.out.2)).mono ?_
     rintro e w7 ⟨rfl,h1,h2⟩
     rw [divInt_Sub] at h1
     have H1:=Lib.hid h1
     have HT:=Lib.hid ((Touch.of_below (HB3.out.trans (HB6.out.mono HB3.out.size)) b o 4).trans h2)
     clear h1 h2 hz6 hn6
     go_wp2
     go_ret
     exact ⟨rfl,H1.out,HT.out⟩
theorem rNum_any {w:World} {c p:Nat} {x:Rat} (hx:RatAt w c p x) :
  Calls Tryz.prog 268 #[.pointer (some ⟨c,p,none⟩)] w fun e w'=>∃ g,e=.returned (.pointer (some ⟨g,0,none⟩))∧w.heap.size≤g∧IntAt w' g 0 x.num∧Below w.heap.size w w':=by
 have HX:=Lib.hid hx
 clear hx
 go_enter Tryz.func268,Tryz.ntmps268
 have ha:Below w.heap.size w (w.alloc (.cells #[.bool false,.slice none 0 0] 186)):=(Below.refl _ _).alloc (Nat.le_refl _) _
 go_wp2_with fail
 refine (set_any (IntAt.new w).slot (HX.out.on ha).num).mono ?_
 rintro e w1 ⟨rfl,h1,h2⟩
 have H1:=Lib.hid h1
 have H2:=Lib.hid (ha.trans (h2.below (Nat.le_refl _) ha.size))
 clear h1 h2 ha
 go_wp2
 go_ret
 exact ⟨_,rfl,Nat.le_refl _,H1.out,H2.out⟩
theorem rDenom_any {w:World} {c p:Nat} {x:Rat} (hx:RatAt w c p x) :
  Calls Tryz.prog 286 #[.pointer (some ⟨c,p,none⟩)] w fun e w'=>∃ g,e=.returned (.pointer (some ⟨g,0,none⟩))∧w.heap.size≤g∧IntAt w' g 0 x.den∧Below w.heap.size w w':=by
 have HX:=Lib.hid hx
 clear hx
 go_enter Tryz.func286,Tryz.ntmps286
 have ha:Below w.heap.size w (w.alloc (.cells #[.bool false,.slice none 0 0] 186)):=(Below.refl _ _).alloc (Nat.le_refl _) _
 go_wp2_with fail
 refine (den_any (HX.out.on ha)).mono ?_
 rintro e w1 ⟨g,i,rfl,h1,h2,_⟩
 have hs:=(IntAt.new w).slot.on h2
 have HB:=Lib.hid (ha.trans (h2.mono ha.size))
 have H1:=Lib.hid h1
 clear h1 h2 ha
 go_wp2_with fail
 refine (set_any hs H1.out).mono ?_
 rintro e w2 ⟨rfl,h1,h2⟩
 have H2:=Lib.hid h1
 have H3:=Lib.hid (HB.out.trans (h2.below (Nat.le_refl _) HB.out.size))
 clear h1 h2 hs
 go_wp2
 go_ret
 exact ⟨_,rfl,Nat.le_refl _,H2.out,H3.out⟩
theorem rSign_any {w:World} {c p:Nat} {x:Rat} (hx:RatAt w c p x) :
  Calls Tryz.prog 237 #[.pointer (some ⟨c,p,none⟩)] w fun e w'=>e=.returned (.int .i64 x.num.sign)∧w=w':=by
 have HX:=Lib.hid hx
 clear hx
 go_enter Tryz.func237,Tryz.ntmps237
 go_wp2_with fail
 refine (sign_any HX.out.num).mono ?_
 rintro e w1 ⟨rfl,rfl⟩
 go_wp2
 go_ret
 exact ⟨rfl,rfl⟩
set_option maxHeartbeats 1600000 in
theorem rSet_any {w:World} {b o c p:Nat} {x:Rat} (hz:Slot w b o 4) (hx:RatAt w c p x) :
  Calls Tryz.prog 345 #[.pointer (some ⟨b,o,none⟩),.pointer (some ⟨c,p,none⟩)] w fun e w'=>e=.returned (.pointer (some ⟨b,o,none⟩))∧RatAt w' b o x∧Touch w w' b o 4:=by
 have HX:=Lib.hid hx
 have HZ:=Lib.hid hz
 clear hx hz
 go_enter Tryz.func345,Tryz.ntmps345
 have ha:Below w.heap.size w (w.alloc (.cells #[.bool false,.slice none 0 0] 186)):=(Below.refl _ _).alloc (Nat.le_refl _) _
 go_wp2_with fail
 refine (set_any (IntAt.new w).slot (HX.out.on ha).num).mono ?_
 rintro e w1 ⟨rfl,h1,h2⟩
 have HB1:=Lib.hid (ha.trans (h2.below (Nat.le_refl _) ha.size))
 have HN1:=Lib.hid h1
 clear h1 h2 ha
 have ha:Below w1.heap.size w1 (w1.alloc (.cells #[.bool false,.slice none 0 0] 186)):=(Below.refl _ _).alloc (Nat.le_refl _) _
 go_wp2_with fail
 refine (den_any ((HX.out.on HB1.out).on ha)).mono ?_
 rintro e w2 ⟨gd,id,rfl,h1,h2,_⟩
 have hs:=(IntAt.new w1).slot.on h2
 have HB2:=Lib.hid (ha.trans (h2.mono ha.size))
 have H1:=Lib.hid h1
 clear h1 h2 ha
 go_wp2_with fail
 refine (set_any hs H1.out).mono ?_
 rintro e w3 ⟨rfl,h1,h2⟩
 have hb3:Below w1.heap.size w1 w3:=HB2.out.trans (h2.below (Nat.le_refl _) HB2.out.size)
 have HN4:=Lib.hid (HN1.out.on hb3)
 have HD4:=Lib.hid h1
 have HZ4:Hid (Slot w3 b o 4):=(HZ.out.on HB1.out).on hb3
 have HB4:Hid (Below w.heap.size w w3):=HB1.out.trans (hb3.mono HB1.out.size)
 have HNE:Hid (w.heap.size≠b∧w1.heap.size≠b):=by
  have h3:=HZ.out.lt
  have h5:=HB1.out.size
  constructor<;>omega
 clear h1 h2 hs hb3 HN1 HX HZ HB1 HB2 H1
 revert HNE HN4 HD4
 obtain ⟨g1,hg1⟩:∃ g,g=w.heap.size:=⟨_,rfl⟩
 rw [← hg1]
 rw [← hg1] at HB4
 have HBW:=Lib.hid hg1
 clear hg1
 generalize w1.heap.size=g2
 intro HN4 HD4 HNE
 obtain ⟨A1,l1,c1,hn0,hn1,hnv,hnl⟩:=HN4.out.open_
 obtain ⟨A2,l2,c2,hd0,hd1,hdv,hdl⟩:=HD4.out.open_
 have HW1:=Lib.hid hnv
 have HW2:=Lib.hid hdv
 clear hnv hdv
 rw [Nat.zero_add] at hn1 hd1
 generalize hs1:decide (x.num<0)=s1 at hn0
 generalize hs2:decide ((x.den:Int)<0)=s2 at hd0
 have HS1:=Lib.hid hs1
 have HS2:=Lib.hid hs2
 clear hs1 hs2
 obtain ⟨v0,hv0⟩:=HZ4.out.cell o (by omega)
 obtain ⟨v1,hv1⟩:=HZ4.out.cell (o+1) (by omega)
 obtain ⟨v2,hv2⟩:=HZ4.out.cell (o+2) (by omega)
 obtain ⟨v3,hv3⟩:=HZ4.out.cell (o+2+1) (by omega)
 have hf:∀ i,w3.frozen? ⟨b,i,none⟩=false:=fun i=>HZ4.out.frozen i
 have hg1:=HNE.out.1
 have hg2:=HNE.out.2
 go_wp2
 go_region
 obtain ⟨hr,ht⟩:=ratAt_set HZ4.out HW1.out HW2.out HS1.out HS2.out
 have HRA:=Lib.hid hr
 have HTO:=Lib.hid ht
 clear hr ht
 go_wp2
 go_ret
 have hb:=HB4.out
 rw [HBW.out] at hb
 exact ⟨rfl,HRA.out.on (Below.refl _ _).drew,(((Touch.of_below hb b o 4).trans HTO.out)).drew⟩
theorem NewRat_any {w:World} {n m:Int} (hn : -9223372036854775808≤n∧n≤9223372036854775807) (hm : -9223372036854775808≤m∧m≤9223372036854775807) (h0:m≠0) :
  Calls Tryz.prog 170 #[.int .i64 n,.int .i64 m] w fun e w'=>∃ g,e=.returned (.pointer (some ⟨g,0,none⟩))∧w.heap.size≤g∧RatAt w' g 0 (Rat.divInt n m)∧Below w.heap.size w w':=by
 have HN:=Lib.hid hn
 have HM:=Lib.hid hm
 have H0:=Lib.hid h0
 have KN:Hid (Okn n):=Okn.small (Nat.lt_of_le_of_lt (show n.natAbs≤9223372036854775808 by omega) (by decide))
 have KM:Hid (Okn m):=Okn.small (Nat.lt_of_le_of_lt (show m.natAbs≤9223372036854775808 by omega) (by decide))
 clear hn hm h0
 go_enter Tryz.func170,Tryz.ntmps170
 have ha:Below w.heap.size w (w.alloc (.cells #[.bool false,.slice none 0 0,.bool false,.slice none 0 0] 188)):=(Below.refl _ _).alloc (Nat.le_refl _) _
 go_wp2_with fail
 refine (NewInt_any HN.out).mono ?_
 rintro e w1 ⟨g1,rfl,_,h1,h2⟩
 have HS:=Lib.hid ((RatAt.new w).slot.on h2)
 have HB1:=Lib.hid (ha.trans (h2.mono ha.size))
 have H1:=Lib.hid h1
 clear h1 h2 ha
 go_wp2_with fail
 refine (NewInt_any HM.out).mono ?_
 rintro e w2 ⟨g2,rfl,_,h1,h2⟩
 have hs:=HS.out.on h2
 have hn2:=H1.out.on h2
 have HB2:=Lib.hid (HB1.out.trans (h2.mono HB1.out.size))
 have H2:=Lib.hid h1
 clear h1 h2 HB1
 go_wp2_with fail
 refine (SetFrac_any hs hn2 H2.out H0.out KN.out KM.out).mono ?_
 rintro e w3 ⟨rfl,h1,h2⟩
 have H3:=Lib.hid h1
 have HB3:=Lib.hid (HB2.out.trans (h2.below (Nat.le_refl _) HB2.out.size))
 clear h1 h2 hs hn2
 go_wp2
 go_ret
 exact ⟨_,rfl,Nat.le_refl _,H3.out,HB3.out⟩
theorem divInt_inv (x:Rat):Rat.divInt x.den x.num=x⁻¹:=(Rat.inv_def x).symm
set_option maxRecDepth 100000 in
theorem rInv_any {w:World} {b o c p:Nat} {x:Rat} (hz:Slot w b o 4) (hx:RatAt w c p x) (kx:OkR x) (h0:x≠0) :
  Calls Tryz.prog 269 #[.pointer (some ⟨b,o,none⟩),.pointer (some ⟨c,p,none⟩)] w fun e w'=>e=.returned (.pointer (some ⟨b,o,none⟩))∧RatAt w' b o x⁻¹∧Touch w w' b o 4:=by
 have HX:=Lib.hid hx
 have HZ:=Lib.hid hz
 have KX:=Lib.hid kx
 have HN0:Hid (x.num≠0):=fun h=>h0 (Rat.num_eq_zero.1 h)
 clear hx hz kx h0
 go_enter Tryz.func269,Tryz.ntmps269
 go_wp2
 refine wp_region_ghost 6 (GC w.heap.size w [2]) (fun γ wq _ wr=>GE w.heap.size [] γ wq wr) (fun i γ wq v=>match i with
   | 0=>v=.pointer (some ⟨b,o,none⟩)
   | 1=>v=.pointer (some ⟨c,p,none⟩)
   | 2=>VD ((x).den:Int) wq v
   | 3=>v=.pointer (some ⟨c,p,none⟩)
   | 4=>v=.pointer (some ⟨c,p,none⟩)
   | 5=>v=.pointer (some ⟨c,p,none⟩)
   | _=>True) (by kernel_rfl) (by kernel_rfl) (by kernel_rfl) (GC.start _ (Nat.le_refl _)) ?_ ⟨?_,?_,?_,?_,?_,?_,trivial⟩ ?_
 · intro i γ w1 k xq w2 v hC hC2 hE hk hi hV
   match i with
   | 0=>exact hV
   | 1=>exact hV
   | 2=>exact VD.stable 2 hV hC hE hi rfl
   | 3=>exact hV
   | 4=>exact hV
   | 5=>exact hV
   | _+6=>trivial
 · intro a' γ w' hag hC hk hd K hK
   have e0:a'.tmps.getD 0 undef=.pointer (some ⟨b,o,none⟩):=hag 0 rfl
   go_step
   exact hK _ _ (hC.step 0 _ rfl (Below.refl _ _)) (GE.refl _ _ _ _) rfl
 · intro a' γ w' hag hC hk hd K hK
   have e1:a'.tmps.getD 1 undef=.pointer (some ⟨c,p,none⟩):=hag 1 rfl
   go_step
   exact hK _ _ (hC.step 1 _ rfl (Below.refl _ _)) (GE.refl _ _ _ _) rfl
 · intro a' γ w' hag hC hk hd K hK
   have e6:a'.tmps.getD 6 undef=.pointer (some ⟨c,p,none⟩):=hd.1.2
   have hx:=HX.out.on hC.below
   go_step
   refine (den_any hx).mono ?_
   rintro e w2 ⟨g,j,rfl,h1,h2,h3⟩
   exact hK _ _ (hC.own 2 _ _ h2 h1.lt (h3.imp (fun e=>by rw [e]; exact HX.out.lt) id)) (GE.below _ _ h2) ⟨_,_,rfl,h1⟩
 · intro a' γ w' hag hC hk hd K hK
   have e1:a'.tmps.getD 1 undef=.pointer (some ⟨c,p,none⟩):=hag 1 rfl
   go_step
   exact hK _ _ (hC.step 3 _ rfl (Below.refl _ _)) (GE.refl _ _ _ _) rfl
 · intro a' γ w' hag hC hk hd K hK
   have e8:a'.tmps.getD 8 undef=.pointer (some ⟨c,p,none⟩):=hd.1.2
   go_step
   exact hK _ _ (hC.step 4 _ rfl (Below.refl _ _)) (GE.refl _ _ _ _) rfl
 · intro a' γ w' hag hC hk hd K hK
   have e9:a'.tmps.getD 9 undef=.pointer (some ⟨c,p,none⟩):=hd.1.2
   go_step
   exact hK _ _ (hC.step 5 _ rfl (Below.refl _ _)) (GE.refl _ _ _ _) rfl
 · intro γ u w' hC hgh hall
   obtain ⟨u0,u1,u2,u3,u4,u5,_⟩:=hall
   have u0:u 0=.pointer (some ⟨b,o,none⟩):=u0
   have u1:u 1=.pointer (some ⟨c,p,none⟩):=u1
   obtain ⟨g7,i7,eu2,h7⟩:=u2
   have u2:u 2=.pointer (some ⟨g7,i7,none⟩):=eu2
   have u3:u 3=.pointer (some ⟨c,p,none⟩):=u3
   have u4:u 4=.pointer (some ⟨c,p,none⟩):=u4
   have u5:u 5=.pointer (some ⟨c,p,none⟩):=u5
   simp only [fillR,List.take_succ_cons,List.take_zero,Act.put,List.setIfInBounds_toArray,List.set_cons_succ,List.set_cons_zero,Nat.zero_add,Nat.reduceAdd,u0,u1,u2,u3,u4,u5]
   clear u0 u1 u2 u3 u4 u5
   have HC:=Lib.hid hC.below
   have H7:=Lib.hid h7
   have hz2:=HZ.out.on HC.out
   have hx2:=HX.out.on HC.out
   clear hC h7
   go_wp2_with fail
   refine (SetFrac_any hz2 H7.out hx2.num HN0.out KX.out.den KX.out.num).mono ?_
   rintro e w3 ⟨rfl,h1,h2⟩
   rw [divInt_inv] at h1
   have H1:=Lib.hid h1
   have HT:=Lib.hid ((Touch.of_below HC.out b o 4).trans h2)
   clear h1 h2 hz2 hx2
   go_wp2
   go_ret
   exact ⟨rfl,H1.out,HT.out⟩
set_option maxRecDepth 100000 in
theorem rNeg_any {w:World} {b o c p:Nat} {x:Rat} (hz:Slot w b o 4) (hx:RatAt w c p x) :
  Calls Tryz.prog 267 #[.pointer (some ⟨b,o,none⟩),.pointer (some ⟨c,p,none⟩)] w fun e w'=>e=.returned (.pointer (some ⟨b,o,none⟩))∧RatAt w' b o (-x)∧Touch w w' b o 4:=by
 have HX:=Lib.hid hx
 have HZ:=Lib.hid hz
 clear hx hz
 go_enter Tryz.func267,Tryz.ntmps267
 go_wp2_with fail
 refine (rSet_any HZ.out HX.out).mono ?_
 rintro e w1 ⟨rfl,h1,h2⟩
 have H1:=Lib.hid h1
 have H2:=Lib.hid h2
 clear h1 h2
 go_wp2
 refine wp_region_ghost 6 (GC w1.heap.size w1 []) (fun γ wq _ wr=>GE w1.heap.size [] γ wq wr) (fun i γ wq v=>match i with
   | 0=>v=.pointer (some ⟨b,o,none⟩)
   | 1=>v=.pointer (some ⟨b,o,none⟩)
   | 2=>v=.pointer (some ⟨b,o,none⟩)
   | 3=>v=.pointer (some ⟨b,o,none⟩)
   | 4=>v=.pointer (some ⟨b,o,none⟩)
   | 5=>v=.pointer (some ⟨b,o,none⟩)
   | _=>True) (by kernel_rfl) (by kernel_rfl) (by kernel_rfl) (GC.start _ (Nat.le_refl _)) ?_ ⟨?_,?_,?_,?_,?_,?_,trivial⟩ ?_
 · intro i γ w1 k xq w2 v hC hC2 hE hk hi hV
   match i with
   | 0=>exact hV
   | 1=>exact hV
   | 2=>exact hV
   | 3=>exact hV
   | 4=>exact hV
   | 5=>exact hV
   | _+6=>trivial
 · intro a' γ w' hag hC hk hd K hK
   have e0:a'.tmps.getD 0 undef=.pointer (some ⟨b,o,none⟩):=hag 0 rfl
   go_step
   exact hK _ _ (hC.step 0 _ rfl (Below.refl _ _)) (GE.refl _ _ _ _) rfl
 · intro a' γ w' hag hC hk hd K hK
   have e8:a'.tmps.getD 8 undef=.pointer (some ⟨b,o,none⟩):=hd.1.2
   go_step
   exact hK _ _ (hC.step 1 _ rfl (Below.refl _ _)) (GE.refl _ _ _ _) rfl
 · intro a' γ w' hag hC hk hd K hK
   have e9:a'.tmps.getD 9 undef=.pointer (some ⟨b,o,none⟩):=hd.1.2
   go_step
   exact hK _ _ (hC.step 2 _ rfl (Below.refl _ _)) (GE.refl _ _ _ _) rfl
 · intro a' γ w' hag hC hk hd K hK
   have e0:a'.tmps.getD 0 undef=.pointer (some ⟨b,o,none⟩):=hag 0 rfl
   go_step
   exact hK _ _ (hC.step 3 _ rfl (Below.refl _ _)) (GE.refl _ _ _ _) rfl
 · intro a' γ w' hag hC hk hd K hK
   have e11:a'.tmps.getD 11 undef=.pointer (some ⟨b,o,none⟩):=hd.1.2
   go_step
   exact hK _ _ (hC.step 4 _ rfl (Below.refl _ _)) (GE.refl _ _ _ _) rfl
 · intro a' γ w' hag hC hk hd K hK
   have e12:a'.tmps.getD 12 undef=.pointer (some ⟨b,o,none⟩):=hd.1.2
   go_step
   exact hK _ _ (hC.step 5 _ rfl (Below.refl _ _)) (GE.refl _ _ _ _) rfl
 · intro γ u w' hC hgh hall
   obtain ⟨u0,u1,u2,u3,u4,u5,_⟩:=hall
   have u0:u 0=.pointer (some ⟨b,o,none⟩):=u0
   have u1:u 1=.pointer (some ⟨b,o,none⟩):=u1
   have u2:u 2=.pointer (some ⟨b,o,none⟩):=u2
   have u3:u 3=.pointer (some ⟨b,o,none⟩):=u3
   have u4:u 4=.pointer (some ⟨b,o,none⟩):=u4
   have u5:u 5=.pointer (some ⟨b,o,none⟩):=u5
   simp only [fillR,List.take_succ_cons,List.take_zero,Act.put,List.setIfInBounds_toArray,List.set_cons_succ,List.set_cons_zero,Nat.zero_add,Nat.reduceAdd,u0,u1,u2,u3,u4,u5]
   clear u0 u1 u2 u3 u4 u5
   have HC:=Lib.hid hC.below
   have hx2:=H1.out.on HC.out
   clear hC
   go_wp2_with fail
   refine (neg_any hx2.num.slot hx2.num).mono ?_
   rintro e w3 ⟨rfl,h3,h4⟩
   have HT:Hid (Touch w w3 b o 4):=H2.out.trans ((Touch.of_below HC.out b o 4).trans (h4.mono (Nat.le_refl _) (by omega)))
   have HR:Hid (RatAt w3 b o (-x)):=by
    obtain ⟨k1,k2,dd,k3,k4⟩:=hx2
    refine ⟨k1.touch h4,by rw [Rat.neg_num]; exact h3,dd,k3.touch k2.slot h4 (.inr (.inr (Nat.le_refl _))),by rw [Rat.neg_den]; exact k4⟩
   clear h3 h4 hx2
   go_wp2
   go_ret
   exact ⟨rfl,HR.out,HT.out⟩
theorem sg_inj {n m:Int} (h:decide (n<0)=decide (m<0)) (k:n.natAbs=m.natAbs):n=m:=by
 have:(n<0)↔(m<0):=decide_eq_decide.1 h
 omega
theorem words_val {w:World} {A:Option Addr} {l c:Nat} {xs ys:List Nat} (h:Words w (.slice A l c) xs) (k:Words w (.slice A l c) ys):xs=ys:=by
 have h1:=h.len.1
 have k1:=k.len.1
 rcases Nat.eq_zero_or_pos l with h0 | h0
 · have e1:xs=[]:=List.eq_nil_of_length_eq_zero (by omega)
   have e2:ys=[]:=List.eq_nil_of_length_eq_zero (by omega)
   rw [e1,e2]
 · obtain ⟨b,o,rfl,h2⟩:=h.open_ h0
   obtain ⟨b',o',e,k2⟩:=k.open_ h0
   cases Option.some.inj e
   refine val_eq_of_same xs ys (by omega) fun i hi=>?_
   have h3:=h2 i (by omega)
   have k3:=k2 i (by omega)
   rw [h3] at k3
   injection k3 with k3
   injection k3 with _ k3
   exact Int.ofNat.inj k3
theorem IntAt.uniq {w:World} {b o:Nat} {n m:Int} (h:IntAt w b o n) (k:IntAt w b o m):n=m:=by
 obtain ⟨A,l,c,h0,h1,h2,_⟩:=h.open_
 obtain ⟨B,l',c',k0,k1,k2,_⟩:=k.open_
 rw [h1] at k1
 cases Option.some.inj k1
 rw [h0] at k0
 have e:=Option.some.inj k0
 injection e with e
 refine sg_inj e ?_
 have:=words_val h2 k2
 rw [← val_dig n.natAbs,this,val_dig]
structure SE (base b o:Nat) (n:Int) (w w':World):Prop where
 zero:∀ g,base≤g→IntAt w g 0 0→IntAt w' g 0 0∨IntAt w' g 0 n
 one:∀ g,base≤g→IntAt w g 0 1→IntAt w' g 0 1
 num:∀ g,base≤g→IntAt w g 0 n→IntAt w' g 0 n
 words:∀ v xs,Words w v xs→Words w' v xs
 stored:IntAt w b o n→IntAt w' b o n
theorem SE.below {base b o:Nat} {n:Int} {w w':World} (h:Below w.heap.size w w'):SE base b o n w w' :=
 ⟨fun _ _ k=>.inl (k.on h),fun _ _ k=>k.on h,fun _ _ k=>k.on h,fun _ _ k=>k.below h,fun k=>k.on h⟩
theorem SE.set {base b o g:Nat} {n:Int} {w w':World} (hb:b<base) (hg:base≤g) (h0:IntAt w g 0 0∨IntAt w g 0 n) (h1:IntAt w' g 0 n) (ht:Touch w w' g 0 2):SE base b o n w w':=by
 have hsl:Slot w g 0 2:=by rcases h0 with h | h<;>exact h.slot
 have far:∀ c m,c≠g→IntAt w c 0 m→IntAt w' c 0 m:=fun c m hc k=>k.touch hsl ht (.inl hc)
 have key:∀ c m,(m=1∨m=n)→IntAt w c 0 m→IntAt w' c 0 m:=by
  intro c m hm k
  by_cases e:c=g
  · subst e
    rcases h0 with h | h
    · have:=k.uniq h
      rcases hm with rfl | rfl
      · cases this
      · exact h1
    · have:=k.uniq h
      rw [this]
      exact h1
  · exact far c m e k
 refine ⟨fun c _ k=>?_,fun c _ k=>key c 1 (.inl rfl) k,fun c _ k=>key c n (.inr rfl) k,fun v xs k=>k.touch hsl ht,fun k=>k.touch hsl ht (.inl (by omega))⟩
 · by_cases e:c=g
   · subst e; exact .inr h1
   · exact .inl (far c 0 e k)
theorem SE.store {base b o:Nat} {n:Int} {w w':World} (hs:Slot w b o 4) (hb:b<base) (ht:Touch w w' b o 2) (hn:IntAt w' b o n):SE base b o n w w' :=
 ⟨fun _ hc k=>.inl (k.touch hs ht (.inl (by omega))),fun _ hc k=>k.touch hs ht (.inl (by omega)),fun _ hc k=>k.touch hs ht (.inl (by omega)),fun _ _ k=>k.touch hs ht,fun _=>hn⟩
theorem intAt_put {w:World} {b o:Nat} {s:Bool} {v:Value} {n:Int} (hs:Slot w b o 2) (hw:Words w v (dig n.natAbs)) (e:decide (n<0)=s) :
  IntAt ((w.setCell ⟨b,o,none⟩ (.bool s)).setCell ⟨b,o+1,none⟩ v) b o n∧Touch w ((w.setCell ⟨b,o,none⟩ (.bool s)).setCell ⟨b,o+1,none⟩ v) b o 2:=by
 have ht:Touch w ((w.setCell ⟨b,o,none⟩ (.bool s)).setCell ⟨b,o+1,none⟩ v) b o 2:=((Touch.refl w b o 2).set_ o (by omega) _).set_ (o+1) (by omega) _
 obtain ⟨cs,t,k1,k2,k3⟩:=id hs
 have hb:((w.setCell ⟨b,o,none⟩ (.bool s)).setCell ⟨b,o+1,none⟩ v).heap[b]?=some (.cells ((cs.setIfInBounds o (.bool s)).setIfInBounds (o+1) v) t (0,0)):=by
  simp [World.setCell,Array.getElem?_modify,k1]
 refine ⟨⟨hs.touch ht,?_,v,?_,hw.touch hs ht⟩,ht⟩
 · rw [cell_of_row _ _ _ _ _ _ hb,Array.getElem?_setIfInBounds_ne (by omega),Array.getElem?_setIfInBounds_self_of_lt (by omega),e]
 · rw [cell_of_row _ _ _ _ _ _ hb,Array.getElem?_setIfInBounds_self_of_lt (by simp; omega)]
theorem Touch.then_ {a b c:World} {g o n:Nat} (h:Touch a b g o n) (hg:g<a.heap.size) (k:Below a.heap.size b c):Touch a c g o n :=
 ⟨k.os.trans h.os,k.tape.trans h.tape,k.output.trans h.output,Nat.le_trans h.size k.size,fun j hj hne=>(k.block j hj).trans (h.block j hj hne),fun cs t fr hc=>by
  obtain ⟨cs1,k1,k2,k3⟩:=h.own cs t fr hc
  exact ⟨cs1,by rw [k.block g hg]; exact k1,k2,k3⟩⟩
set_option maxHeartbeats 1600000 in
set_option maxRecDepth 100000 in
theorem SetInt_any {w:World} {b o c p:Nat} {n:Int} (hz:Slot w b o 4) (hx:IntAt w c p n) (hne:c≠b) :
  Calls Tryz.prog 260 #[.pointer (some ⟨b,o,none⟩),.pointer (some ⟨c,p,none⟩)] w fun e w'=>e=.returned (.pointer (some ⟨b,o,none⟩))∧RatAt w' b o (n:Rat)∧Touch w w' b o 4:=by
 have HX:=Lib.hid hx
 have HZ:=Lib.hid hz
 have HNE:=Lib.hid hne
 obtain ⟨B,hB⟩:∃ B,B=w.heap.size:=⟨_,rfl⟩
 have HB:=Lib.hid hB
 have HBB:Hid (b<B):=by rw [hB]; exact hz.lt
 clear hx hz hne hB
 go_enter Tryz.func260,Tryz.ntmps260
 go_wp2
 refine wp_region_acts 13 (fun w'=>Touch w w' b o 4) (fun w w'=>SE B b o n w w') (fun i w v=>match i with
   | 0=>v=.pointer (some ⟨b,o,none⟩)
   | 1=>v=.pointer (some ⟨b,o,none⟩)
   | 2=>∃ g,v=.pointer (some ⟨g,0,none⟩)∧B≤g∧(IntAt w g 0 0∨IntAt w g 0 n)
   | 3=>v=.pointer (some ⟨c,p,none⟩)
   | 4=>∃ g,v=.pointer (some ⟨g,0,none⟩)∧B≤g∧IntAt w g 0 n
   | 5=>∃ g,v=.pointer (some ⟨g,0,none⟩)∧B≤g∧IntAt w g 0 n
   | 6=>∃ A l k,v=.agg #[.bool (decide (n<0)),.slice A l k]∧Words w (.slice A l k) (dig n.natAbs)
   | 7=>∃ g,v=.pointer (some ⟨g,0,none⟩)∧B≤g∧IntAt w g 0 1
   | 8=>∃ g,v=.pointer (some ⟨g,0,none⟩)∧B≤g∧IntAt w g 0 1
   | 9=>∃ A l k,v=.agg #[.bool (decide ((1:Int)<0)),.slice A l k]∧Words w (.slice A l k) (dig (1:Int).natAbs)
   | 10=>v=.pointer (some ⟨b,o,none⟩)
   | 11=>v=.pointer (some ⟨b,o,none⟩)
   | _=>IntAt w b o n) (by kernel_rfl) (by kernel_rfl) (by kernel_rfl) ((Touch.refl _ _ _ _).drew) (fun _ _=>SE.below (Below.refl _ _)) ?_ ⟨?_,?_,?_,?_,?_,?_,?_,?_,?_,?_,?_,?_,?_,trivial⟩ ?_
 · intro i w1 w2 v hC hC2 hE hV
   match i with
   | 0=>exact hV
   | 1=>exact hV
   | 2=>obtain ⟨g,e,hb,h⟩:=hV; exact ⟨g,e,hb,h.elim (fun h=>hE.zero g hb h) (fun h=>.inr (hE.num g hb h))⟩
   | 3=>exact hV
   | 4=>obtain ⟨g,e,hb,h⟩:=hV; exact ⟨g,e,hb,hE.num g hb h⟩
   | 5=>obtain ⟨g,e,hb,h⟩:=hV; exact ⟨g,e,hb,hE.num g hb h⟩
   | 6=>obtain ⟨A,l,k,e,h⟩:=hV; exact ⟨A,l,k,e,hE.words _ _ h⟩
   | 7=>obtain ⟨g,e,hb,h⟩:=hV; exact ⟨g,e,hb,hE.one g hb h⟩
   | 8=>obtain ⟨g,e,hb,h⟩:=hV; exact ⟨g,e,hb,hE.one g hb h⟩
   | 9=>obtain ⟨A,l,k,e,h⟩:=hV; exact ⟨A,l,k,e,hE.words _ _ h⟩
   | 10=>exact hV
   | 11=>exact hV
   | _+12=>exact hE.stored hV
 · intro a' w' hag hC hd K hK
   have e0:a'.tmps.getD 0 undef=.pointer (some ⟨b,o,none⟩):=hag 0 rfl
   go_step
   exact hK _ _ hC (SE.below (Below.refl _ _)) rfl
 · intro a' w' hag hC hd K hK
   have e0:a'.tmps.getD 0 undef=.pointer (some ⟨b,o,none⟩):=hag 0 rfl
   go_step
   exact hK _ _ hC (SE.below (Below.refl _ _)) rfl
 · intro a' w' hag hC hd K hK
   have hb:Below w'.heap.size w' (w'.alloc (.cells #[.bool false,.slice none 0 0] 186)):=(Below.refl _ _).alloc (Nat.le_refl _) _
   have HK:=Lib.hid (hK (.pointer (some ⟨w'.heap.size,0,none⟩)) _ (hC.then_below hb) (SE.below hb) ⟨_,rfl,by rw [HB.out]; exact hC.size,.inl (IntAt.new w')⟩)
   clear hb hK hC
   go_step
   exact HK.out
 · intro a' w' hag hC hd K hK
   have e1:a'.tmps.getD 1 undef=.pointer (some ⟨c,p,none⟩):=hag 1 rfl
   go_step
   exact hK _ _ hC (SE.below (Below.refl _ _)) rfl
 · intro a' w' hag hC hd K hK
   obtain ⟨g7,e7,hb7,h7⟩:=hd.1
   have e7:a'.tmps.getD 7 undef=.pointer (some ⟨g7,0,none⟩):=e7
   have e8:a'.tmps.getD 8 undef=.pointer (some ⟨c,p,none⟩):=hd.2.1
   have hs7:Slot w' g7 0 2:=by rcases h7 with h | h<;>exact h.slot
   have hx':=HX.out.touch HZ.out hC (.inl HNE.out)
   go_step
   refine (set_any hs7 hx').mono ?_
   rintro e w2 ⟨rfl,h1,h2⟩
   exact hK _ _ (hC.then_ HZ.out.lt (h2.below (by rw [← HB.out]; exact hb7) hC.size)) (SE.set HBB.out hb7 h7 h1 h2) ⟨_,rfl,hb7,h1⟩
 · intro a' w' hag hC hd K hK
   obtain ⟨g9,e9,hb9,h9⟩:=hd.1
   have e9:a'.tmps.getD 9 undef=.pointer (some ⟨g9,0,none⟩):=e9
   go_step
   exact hK _ _ hC (SE.below (Below.refl _ _)) ⟨g9,rfl,hb9,h9⟩
 · intro a' w' hag hC hd K hK
   obtain ⟨g9,e10,hb9,h9⟩:=hd.1
   have e10:a'.tmps.getD 10 undef=.pointer (some ⟨g9,0,none⟩):=e10
   obtain ⟨A,l,k,hc0,hc1,hcw,_⟩:=h9.open_
   rw [Nat.zero_add] at hc1
   generalize hs1:decide (n<0)=s1 at hc0
   have HS1:=Lib.hid hs1
   clear hs1
   have HK:=Lib.hid (hK (.agg #[.bool s1,.slice A l k]) _ hC (SE.below (Below.refl _ _)) ⟨A,l,k,by rw [HS1.out],hcw⟩)
   clear hK hC hcw
   go_step
   exact HK.out
 · intro a' w' hag hC hd K hK
   go_step
   refine (NewInt_any (by omega)).mono ?_
   rintro e w2 ⟨g,rfl,hg,h1,h2⟩
   exact hK _ _ (hC.then_below h2) (SE.below h2) ⟨_,rfl,by rw [HB.out]; exact Nat.le_trans hC.size hg,h1⟩
 · intro a' w' hag hC hd K hK
   obtain ⟨g12,e12,hb12,h12⟩:=hd.1
   have e12:a'.tmps.getD 12 undef=.pointer (some ⟨g12,0,none⟩):=e12
   go_step
   exact hK _ _ hC (SE.below (Below.refl _ _)) ⟨g12,rfl,hb12,h12⟩
 · intro a' w' hag hC hd K hK
   obtain ⟨g12,e13,hb12,h12⟩:=hd.1
   have e13:a'.tmps.getD 13 undef=.pointer (some ⟨g12,0,none⟩):=e13
   obtain ⟨A,l,k,hc0,hc1,hcw,_⟩:=h12.open_
   rw [Nat.zero_add] at hc1
   generalize hs1:decide ((1:Int)<0)=s1 at hc0
   have HS1:=Lib.hid hs1
   clear hs1
   have HK:=Lib.hid (hK (.agg #[.bool s1,.slice A l k]) _ hC (SE.below (Below.refl _ _)) ⟨A,l,k,by rw [HS1.out],hcw⟩)
   clear hK hC hcw
   go_step
   exact HK.out
 · intro a' w' hag hC hd K hK
   have e5:a'.tmps.getD 5 undef=.pointer (some ⟨b,o,none⟩):=hd.1
   go_step
   exact hK _ _ hC (SE.below (Below.refl _ _)) rfl
 · intro a' w' hag hC hd K hK
   have e15:a'.tmps.getD 15 undef=.pointer (some ⟨b,o,none⟩):=hd.1
   go_step
   exact hK _ _ hC (SE.below (Below.refl _ _)) rfl
 · intro a' w' hag hC hd K hK
   have e16:a'.tmps.getD 16 undef=.pointer (some ⟨b,o,none⟩):=hd.1
   obtain ⟨A11,l11,k11,e11,h11⟩:=hd.2.1
   have e11:a'.tmps.getD 11 undef=.agg #[.bool (decide (n<0)),.slice A11 l11 k11]:=e11
   have hs':=HZ.out.touch hC
   obtain ⟨v0,hv0⟩:=hs'.cell o (by omega)
   obtain ⟨v1,hv1⟩:=hs'.cell (o+1) (by omega)
   have hf:∀ i,w'.frozen? ⟨b,i,none⟩=false:=fun i=>hs'.frozen i
   generalize hs1:decide (n<0)=s1 at e11
   obtain ⟨k1,k2⟩:=intAt_put (show Slot w' b o 2 from hs'.part (by omega)) h11 hs1
   have HK:=Lib.hid (hK undef _ (hC.trans (k2.mono (Nat.le_refl _) (by omega))) (SE.store hs' HBB.out k2 k1) k1)
   clear hK hC k1 k2 hs1
   go_step
   exact HK.out
 · intro u w' hC hall
   obtain ⟨u0,u1,u2,u3,u4,u5,u6,u7,u8,u9,u10,u11,u12,_⟩:=hall
   have u0:u 0=.pointer (some ⟨b,o,none⟩):=u0
   have u1:u 1=.pointer (some ⟨b,o,none⟩):=u1
   have u3:u 3=.pointer (some ⟨c,p,none⟩):=u3
   obtain ⟨A14,l14,k14,eu9,h14⟩:=u9
   have u9:u 9=.agg #[.bool (decide ((1:Int)<0)),.slice A14 l14 k14]:=eu9
   have u10:u 10=.pointer (some ⟨b,o,none⟩):=u10
   have u11:u 11=.pointer (some ⟨b,o,none⟩):=u11
   simp only [fillR,List.take_succ_cons,List.take_zero,Act.put,List.setIfInBounds_toArray,List.set_cons_succ,List.set_cons_zero,Nat.zero_add,Nat.reduceAdd,u0,u1,u3,u9,u10,u11]
   clear u0 u1 u3 u9 u10 u11
   have hst:IntAt w' b o n:=u12
   have hs':=HZ.out.touch hC
   obtain ⟨v0,hv0⟩:=hs'.cell (o+2) (by omega)
   obtain ⟨v1,hv1⟩:=hs'.cell (o+2+1) (by omega)
   have hf:∀ i,w'.frozen? ⟨b,i,none⟩=false:=fun i=>hs'.frozen i
   generalize hs1:decide ((1:Int)<0)=s1
   obtain ⟨k1,k2⟩:=intAt_put (show Slot w' b (o+2) 2 from hs'.part (by omega)) h14 hs1
   have hn2:=hst.touch (hs'.part (show o+2+2≤o+4 by omega)) k2 (.inr (.inl (Nat.le_refl _)))
   have HT:=Lib.hid (hC.trans (k2.mono (by omega) (by omega)))
   have HR:Hid (RatAt ((w'.setCell ⟨b,o+2,none⟩ (.bool s1)).setCell ⟨b,o+2+1,none⟩ (.slice A14 l14 k14)) b o (n:Rat)):=by
    refine ⟨hs'.touch k2,?_,1,k1,.inl ?_⟩
    · rw [Rat.num_intCast]; exact hn2
    · rw [Rat.den_intCast]; rfl
   clear hC k1 k2 hs1 hst hn2 h14 hs' u12
   go_wp2
   go_ret
   exact ⟨rfl,HR.out,HT.out⟩
theorem back_agg {w:World} {b o:Nat} {n:Int} (hx:IntAt w b o n) (hn:Okn n) :
  Calls Tryz.prog 258 #[.pointer (some ⟨b,o,none⟩)] w fun e w'=>∃ p s,e=.returned (.agg #[.bool p,.string s])∧Hid (p=decide (n<0))∧Hid (s=mag n.natAbs)∧Below w.heap.size w w' :=
 (back_any hx hn).mono fun e w' h=>⟨_,_,h.1,rfl,rfl,h.2⟩
set_option maxRecDepth 100000 in
theorem told_any {w:World} {b o:Nat} {q:Rat} (hx:RatAt w b o q) (hq:OkR q) :
  Calls Tryz.prog 265 #[.pointer (some ⟨b,o,none⟩)] w fun e w'=>∃ p s t,e=.returned (.agg #[.bool p,.string s,.bool false,.string t])∧Hid (p=decide (q.num<0))∧Hid (s=mag q.num.natAbs)∧Hid (t=mag q.den)∧Below w.heap.size w w':=by
 have HB:=Lib.hid (below_new w (.cells #[.bool false,.string ⟨#[]⟩,.bool false,.string ⟨#[]⟩] 25))
 have HC:=Lib.hid (BoxAt.new w #[.bool false,.string ⟨#[]⟩,.bool false,.string ⟨#[]⟩] 25)
 have HX:=Lib.hid (hx.on HB.out)
 have HQ:=Lib.hid hq
 clear hx hq
 go_enter Tryz.func265,Tryz.ntmps265
 go_wp2_with fail
 refine (rNum_any HX.out).mono ?_
 rintro e w1 ⟨g1,rfl,hg1,h1,hb1⟩
 have HB1:=Lib.hid hb1
 have H1:=Lib.hid h1
 clear h1 hb1
 go_wp2_with fail
 refine (back_agg H1.out HQ.out.num).mono ?_
 rintro e w2 ⟨p1,s1,rfl,hp1,hs1,hb2⟩
 have HB2:=Lib.hid (HB1.out.trans (hb2.mono HB1.out.size))
 clear hb2
 go_wp2_with fail
 refine (rDenom_any (HX.out.on HB2.out)).mono ?_
 rintro e w3 ⟨g3,rfl,hg3,h3,hb3⟩
 have HB3:=Lib.hid (HB2.out.trans (hb3.mono HB2.out.size))
 have H3:=Lib.hid h3
 clear h3 hb3
 go_wp2_with fail
 refine (back_agg H3.out HQ.out.den).mono ?_
 rintro e w4 ⟨p2,s2,rfl,hp2,hs2,hb4⟩
 have HB4:=Lib.hid (HB3.out.trans (hb4.mono HB3.out.size))
 clear hb4
 have hc:=fun i v h=>(HC.out.on HB4.out).cell i v h
 have hc0:=hc 0 _ rfl
 have hc1:=hc 1 _ rfl
 have hc2:=hc 2 _ rfl
 have hc3:=hc 3 _ rfl
 have hf:=(HC.out.on HB4.out).frozen
 have HK:=Lib.hid (((((HC.out.on HB4.out).set 0 (.bool p1)).set 1 (.string s1)).set 2 (.bool p2)).set 3 (.string s2))
 have HW:=Lib.hid (HB.out.trans (HB4.out.mono HB.out.size))
 clear hc
 go_wp2
 have h0:=HK.out.cell 0 (.bool p1) rfl
 have h1:=HK.out.cell 1 (.string s1) rfl
 have h2:=HK.out.cell 2 (.bool p2) rfl
 have h3:=HK.out.cell 3 (.string s2) rfl
 have hp:p2=false:=by rw [hp2.out]; simp
 subst hp
 exact bodyPost_ret (v:=.agg #[.bool p1,.string s1,.bool false,.string s2]) (by simp [results,Tryz.results265,go_sem,h0,h1,h2,h3]) rfl ⟨_,_,_,rfl,hp1,hs1,by rw [Hid,hs2.out,Int.natAbs_natCast],(((HW.out.setCell (Nat.le_refl _) _).setCell (Nat.le_refl _) _).setCell (Nat.le_refl _) _).setCell (Nat.le_refl _) _⟩
def Fit (q:Rat):Prop:=(mag q.num.natAbs).size≤1024∧(mag q.den).size≤1024
theorem wl_size {n:Nat} {k:Nat} (h:(mag n).size≤k):(dig n).length≤(k+3)/4:=by
 refine dig_len_le _ _ ?_
 rw [mag_size_le,p256] at h
 rw [p32]
 exact Nat.lt_of_lt_of_le h (Nat.pow_le_pow_right (by decide) (by omega))
theorem mag_mono {a b k:Nat} (h:a≤b) (hk:(mag b).size≤k):(mag a).size≤k:=by
 rw [mag_size_le] at *
 omega
theorem num_le (n d:Int) (hd:d≠0):(Rat.divInt n d).num.natAbs≤n.natAbs:=by
 rw [Rat.num_divInt]
 refine Nat.le_trans (Int.natAbs_ediv_le_natAbs _ _) ?_
 rw [Int.natAbs_mul]
 have h:d.sign.natAbs≤1:=by
  rcases Int.lt_trichotomy d 0 with h | h | h
  · rw [Int.sign_eq_neg_one_of_neg h]; decide
  · exact absurd h hd
  · rw [Int.sign_eq_one_of_pos h]; decide
 calc d.sign.natAbs*n.natAbs≤1*n.natAbs:=Nat.mul_le_mul_right _ h
  _=n.natAbs:=Nat.one_mul _
theorem den_le (n d:Int) (hd:d≠0):(Rat.divInt n d).den≤d.natAbs:=by
 rw [Rat.den_divInt,if_neg hd]
 exact Nat.div_le_self _ _
def IsFrac (v:Value):Prop:=∃ q,Fit q∧v=fracV q
theorem agg4 {b c b' c':Bool} {s t s' t':ByteArray} (h:(Value.agg #[.bool b,.string s,.bool c,.string t])=.agg #[.bool b',.string s',.bool c',.string t']):b=b'∧s=s'∧c=c'∧t=t':=by
 injection h with h
 injection h with h
 injection h with h1 h
 injection h with h2 h
 injection h with h3 h
 injection h with h4 _
 injection h1 with h1
 injection h2 with h2
 injection h3 with h3
 injection h4 with h4
 exact ⟨h1,h2,h3,h4⟩
theorem isFrac_parts {b c:Bool} {s t:ByteArray} (h:IsFrac (.agg #[.bool b,.string s,.bool c,.string t])) :
  WholeOk b s∧WholeOk c t∧s.size≤1024∧t.size≤1024∧0<(numOf c t)∧(Value.agg #[.bool b,.string s,.bool c,.string t])=fracV (Rat.divInt (numOf b s) (numOf c t)):=by
 obtain ⟨q,hf,hv⟩:=h
 obtain ⟨rfl,rfl,rfl,rfl⟩:=agg4 hv
 have h1:=ok_wholeV q.num (Nat.le_trans hf.1 (by decide))
 have h2:=ok_wholeV (q.den:Int) (by rw [Int.natAbs_natCast]; exact Nat.le_trans hf.2 (by decide))
 have e:decide ((q.den:Int)<0)=false:=by simp
 rw [e,Int.natAbs_natCast] at h2
 have n1:=numOf_mag q.num
 have n2:=numOf_mag (q.den:Int)
 rw [e,Int.natAbs_natCast] at n2
 refine ⟨h1,h2,hf.1,hf.2,?_,?_⟩
 · rw [n2]; have:=q.den_pos; omega
 · rw [n1,n2,Rat.num_divInt_den]
   rfl
theorem isFrac_of {b c:Bool} {s t:ByteArray} (h1:s.size≤1024) (h2:t.size≤1024) {q:Rat} (h:(Value.agg #[.bool b,.string s,.bool c,.string t])=fracV q):IsFrac (.agg #[.bool b,.string s,.bool c,.string t]):=by
 refine ⟨q,?_,h⟩
 obtain ⟨rfl,rfl,rfl,rfl⟩:=agg4 h
 exact ⟨h1,h2⟩
theorem toList_inj {a b:ByteArray}:a.toList=b.toList↔a=b:=by
 constructor
 · intro h
   rw [ByteArray.toList_eq,ByteArray.toList_eq] at h
   obtain ⟨⟨x⟩⟩:=a
   obtain ⟨⟨y⟩⟩:=b
   have:x=y:=h
   rw [this]
 · rintro rfl; rfl
def sz (n:Int):Nat:=(mag n.natAbs).size
theorem sz_le {n:Int} {k:Nat}:sz n≤k↔n.natAbs<256^k:=mag_size_le
theorem sz_mul {a b:Int} {i j:Nat} (h:sz a≤i) (k:sz b≤j):sz (a*b)≤i+j:=by
 rw [sz_le] at *
 rw [Int.natAbs_mul,Nat.pow_add]
 exact Nat.mul_lt_mul'' h k
theorem sz_add {a b:Int} {i:Nat} (h:sz a≤i) (k:sz b≤i):sz (a+b)≤i+1:=by
 rw [sz_le] at *
 rw [Nat.pow_succ]
 have:=Int.natAbs_add_le a b
 omega
theorem sz_neg (a:Int):sz (-a)=sz a:=by
 unfold sz; rw [Int.natAbs_neg]
theorem sz_sub {a b:Int} {i:Nat} (h:sz a≤i) (k:sz b≤i):sz (a-b)≤i+1:=by
 rw [Int.sub_eq_add_neg]
 exact sz_add h (by rw [sz_neg]; exact k)
theorem sz_nat (d:Nat):sz (d:Int)=(mag d).size:=by unfold sz; rw [Int.natAbs_natCast]
def Sz (k:Nat) (q:Rat):Prop:=sz q.num≤k∧sz (q.den:Int)≤k
theorem Sz.mono {i k:Nat} {q:Rat} (h:Sz i q) (hk:i≤k):Sz k q:=⟨Nat.le_trans h.1 hk,Nat.le_trans h.2 hk⟩
theorem Sz.fit {k:Nat} {q:Rat} (h:Sz k q) (hk:k≤1024):Fit q:=⟨Nat.le_trans h.1 hk,by have:=h.2; rw [sz_nat] at this; omega⟩
theorem Sz.neg {k:Nat} {x:Rat} (h:Sz k x):Sz k (-x):=⟨by rw [show (-x).num = -x.num from rfl,sz_neg]; exact h.1,h.2⟩
theorem Fit.sz {q:Rat} (h:Fit q):Sz 1024 q:=⟨h.1,by rw [sz_nat]; exact h.2⟩
theorem sz_divInt {n d:Int} {k:Nat} (hd:d≠0) (h1:sz n≤k) (h2:sz d≤k):Sz k (Rat.divInt n d) :=
 ⟨mag_mono (num_le n d hd) h1,by rw [sz_nat]; exact mag_mono (den_le n d hd) h2⟩
theorem Sz.mul {i j:Nat} {x y:Rat} (h:Sz i x) (k:Sz j y):Sz (i+j) (x*y):=by
 rw [← divInt_mul]
 exact sz_divInt (Int.mul_ne_zero (den_ne x) (den_ne y)) (sz_mul h.1 k.1) (sz_mul h.2 k.2)
theorem Sz.add {i j:Nat} {x y:Rat} (h:Sz i x) (k:Sz j y):Sz (i+j+1) (x+y):=by
 rw [← divInt_Add]
 refine sz_divInt (Int.mul_ne_zero (den_ne x) (den_ne y)) (sz_add (sz_mul h.1 k.2) ?_) (Nat.le_succ_of_le (sz_mul h.2 k.2))
 rw [Nat.add_comm]
 exact sz_mul k.1 h.2
theorem Sz.sub {i j:Nat} {x y:Rat} (h:Sz i x) (k:Sz j y):Sz (i+j+1) (x-y):=by
 rw [← divInt_Sub]
 refine sz_divInt (Int.mul_ne_zero (den_ne x) (den_ne y)) (sz_sub (sz_mul h.1 k.2) ?_) (Nat.le_succ_of_le (sz_mul h.2 k.2))
 rw [Nat.add_comm]
 exact sz_mul k.1 h.2
theorem Sz.okR2 {k:Nat} {q:Rat} (h:Sz k q) (hk:k≤4000000000):OkR q:=by
 have k1:=wl_size (Nat.le_trans h.1 hk)
 have k2:=wl_size (Nat.le_trans h.2 hk)
 refine ⟨?_,?_⟩
 · show (dig _).length≤_
   omega
 · show (dig ((q.den:Int)).natAbs).length≤_
   omega
theorem Sz.inv {k:Nat} {x:Rat} (h:Sz k x) (h0:x≠0):Sz k x⁻¹:=by
 rw [← divInt_inv]
 exact sz_divInt (fun e=>h0 (Rat.num_eq_zero.1 e)) h.2 h.1
structure GQ where
 re:Rat
 im:Rat
theorem GQ.ext2 {z w:GQ} (h:z.re=w.re) (k:z.im=w.im):z=w:=by cases z; cases w; cases h; cases k; rfl
def gadd (z w:GQ):GQ:=⟨z.re+w.re,z.im+w.im⟩
def gsub (z w:GQ):GQ:=⟨z.re-w.re,z.im-w.im⟩
def gmul (z w:GQ):GQ:=⟨z.re*w.re-z.im*w.im,z.re*w.im+z.im*w.re⟩
def gneg (z:GQ):GQ:=⟨-z.re,-z.im⟩
def gconj (z:GQ):GQ:=⟨z.re,-z.im⟩
def gnorm (z:GQ):Rat:=z.re*z.re+z.im*z.im
def gscale (z:GQ) (x:Rat):GQ:=⟨z.re*x,z.im*x⟩
def gdiv (z w:GQ):GQ:=gscale (gmul z (gconj w)) (gnorm w)⁻¹
def gint (n m:Int):GQ:=⟨Rat.divInt n 1,Rat.divInt m 1⟩
def gzero (z:GQ):Bool:=decide (z.re=0)&&decide (z.im=0)
theorem gzero_iff {z:GQ}:gzero z=true↔z.re=0∧z.im=0:=by simp [gzero]
theorem rsq_nonneg (x:Rat):0≤x*x:=by
 rcases (Rat.le_total:(0:Rat)≤x∨x≤0) with h | h
 · exact Rat.mul_nonneg h h
 · have:=Rat.mul_nonneg (Rat.neg_le_neg h) (Rat.neg_le_neg h)
   rwa [Rat.neg_mul,Rat.mul_neg,Rat.neg_neg] at this
theorem gnorm_ne {z:GQ} (h:gzero z=false):gnorm z≠0:=by
 intro e
 have h1:=rsq_nonneg z.re
 have h2:=rsq_nonneg z.im
 have h3:z.re*z.re=0∧z.im*z.im=0:=by unfold gnorm at e; constructor<;>grind
 have h4:z.re=0:=(Rat.mul_eq_zero.1 h3.1).elim id id
 have h5:z.im=0:=(Rat.mul_eq_zero.1 h3.2).elim id id
 have:=gzero_iff.2 ⟨h4,h5⟩
 rw [h] at this
 cases this
def GSz (k:Nat) (z:GQ):Prop:=Sz k z.re∧Sz k z.im
theorem GSz.mono {i k:Nat} {z:GQ} (h:GSz i z) (hk:i≤k):GSz k z:=⟨h.1.mono hk,h.2.mono hk⟩
theorem GSz.add {i j:Nat} {z w:GQ} (h:GSz i z) (k:GSz j w):GSz (i+j+1) (gadd z w):=⟨h.1.add k.1,h.2.add k.2⟩
theorem GSz.sub {i j:Nat} {z w:GQ} (h:GSz i z) (k:GSz j w):GSz (i+j+1) (gsub z w):=⟨h.1.sub k.1,h.2.sub k.2⟩
theorem GSz.mul {i j:Nat} {z w:GQ} (h:GSz i z) (k:GSz j w):GSz (i+j+(i+j)+1) (gmul z w):=⟨(h.1.mul k.1).sub (h.2.mul k.2),(h.1.mul k.2).add (h.2.mul k.1)⟩
theorem GSz.neg {i:Nat} {z:GQ} (h:GSz i z):GSz i (gneg z):=⟨h.1.neg,h.2.neg⟩
theorem GSz.conj {i:Nat} {z:GQ} (h:GSz i z):GSz i (gconj z):=⟨h.1,h.2.neg⟩
theorem GSz.norm {i:Nat} {z:GQ} (h:GSz i z):Sz (i+i+(i+i)+1) (gnorm z):=(h.1.mul h.1).add (h.2.mul h.2)
theorem GSz.scale {i j:Nat} {z:GQ} {x:Rat} (h:GSz i z) (k:Sz j x):GSz (i+j) (gscale z x):=⟨h.1.mul k,h.2.mul k⟩
theorem GSz.div {i j:Nat} {z w:GQ} (h:GSz i z) (k:GSz j w) (h0:gzero w=false):GSz (i+j+(i+j)+1+(j+j+(j+j)+1)) (gdiv z w):=(h.mul k.conj).scale (k.norm.inv (gnorm_ne h0))
theorem sz_small {n:Int} (h:n.natAbs<256):sz n≤1:=by rw [sz_le]; exact h
theorem Sz.small {n:Int} (h:n.natAbs<256):Sz 1 (Rat.divInt n 1):=sz_divInt (by decide) (sz_small h) (sz_small (by decide))
theorem GSz.int {n m:Int} (h:n.natAbs<256) (k:m.natAbs<256):GSz 1 (gint n m):=⟨Sz.small h,Sz.small k⟩
end Go.Proofs.YtdiemgedlfnlmaaGreat
end
