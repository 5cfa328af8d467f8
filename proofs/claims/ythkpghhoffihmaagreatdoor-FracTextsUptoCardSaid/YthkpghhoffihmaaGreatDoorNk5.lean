/- RegH, RatB, RatC, RatD, Fr, Fs, May, Wrw, RdM, RdW, RdQ, RdG, RdS. -/
import Derived.Test.YthkpghhoffihmaaGreatDoorNk4
set_option linter.unnecessarySimpa false
set_option linter.unusedVariables false
set_option linter.unusedSimpArgs false
section
namespace Go.Proofs.YthkpghhoffihmaaGreatDoor
open Go.RowKit
def blk (v:Value):Option Nat:=match v with
 | .pointer (some a)=>some a.block
 | _=>none
structure GC (base:Nat) (w0:World) (ow:List Nat) (γ:Gh) (w:World):Prop where
 below:Below base w0 w
 size:base≤w.heap.size
 lt:∀ i∈ow,∀ v g,γ i=some v→blk v=some g→g<w.heap.size
 apart:∀ i∈ow,∀ j∈ow,i≠j→∀ v u g,γ i=some v→γ j=some u→blk v=some g→blk u=some g→g<base
structure GE (base:Nat) (wr:List (Nat × Nat)) (γ:Gh) (w w':World):Prop where
 int:∀ g o n,IntAt w g o n→(∃ p∈wr,∃ v,γ p.1=some v∧blk v=some g∧γ p.2=none∧base≤g)∨IntAt w' g o n
 slot:∀ g o n,Slot w g o n→Slot w' g o n
theorem GC.start {base:Nat} {w0:World} (ow:List Nat) (hb:base≤w0.heap.size):GC base w0 ow gh0 w0.drew :=
 ⟨(Below.refl _ _).drew,hb,(fun _ _ _ _ h=>nomatch h),(fun _ _ _ _ _ _ _ _ h=>nomatch h)⟩
theorem upd_some {γ:Gh} {k i:Nat} {x v:Value} (h:γ i=some v) (hk:γ k=none):γ.upd k x i=some v:=by
 rw [Gh.upd_ne γ x (fun e=>by rw [e,hk] at h; cases h)]
 exact h
theorem GC.step {base:Nat} {w0 w w':World} {ow:List Nat} {γ:Gh} (h:GC base w0 ow γ w) (k:Nat) (x:Value) (hk:ow.contains k=false) (hb:Below base w w'):GC base w0 ow (γ.upd k x) w':=by
 have hne:∀ i∈ow,i≠k:=fun i hi e=>by subst e; rw [List.contains_iff_mem.2 hi] at hk; cases hk
 refine ⟨h.below.trans hb,Nat.le_trans h.size hb.size,fun i hi v g h1 h2=>?_,fun i hi j hj hij v u g h1 h2=>?_⟩
 · rw [Gh.upd_ne γ x (hne i hi)] at h1
   exact Nat.lt_of_lt_of_le (h.lt i hi v g h1 h2) hb.size
 · rw [Gh.upd_ne γ x (hne i hi)] at h1
   rw [Gh.upd_ne γ x (hne j hj)] at h2
   exact h.apart i hi j hj hij v u g h1 h2
theorem GC.own {base:Nat} {w0 w w':World} {ow:List Nat} {γ:Gh} (h:GC base w0 ow γ w) (k:Nat) (g o:Nat) (hb:Below w.heap.size w w') (hg:g<w'.heap.size) (hn:g<base∨w.heap.size≤g) :
  GC base w0 ow (γ.upd k (.pointer (some ⟨g,o,none⟩))) w':=by
 refine ⟨h.below.trans (hb.mono h.size),Nat.le_trans h.size hb.size,fun i hi v j h1 h2=>?_,fun i hi j hj hij v u c h1 h2 h3 h4=>?_⟩
 · by_cases e:i=k
   · subst e
     rw [Gh.upd_self] at h1
     cases h1
     cases h2
     exact hg
   · rw [Gh.upd_ne γ _ e] at h1
     exact Nat.lt_of_lt_of_le (h.lt i hi v j h1 h2) hb.size
 · by_cases e:i=k
   · subst e
     rw [Gh.upd_self] at h1
     rw [Gh.upd_ne γ _ (Ne.symm hij)] at h2
     cases h1
     cases h3
     have:=h.lt j hj u _ h2 h4
     simp only at this ⊢
     omega
   · rw [Gh.upd_ne γ _ e] at h1
     by_cases e2:j=k
     · subst e2
       rw [Gh.upd_self] at h2
       cases h2
       cases h4
       have:=h.lt i hi v _ h1 h3
       simp only at this ⊢
       omega
     · rw [Gh.upd_ne γ _ e2] at h2
       exact h.apart i hi j hj hij v u c h1 h2 h3 h4
theorem GE.below {base:Nat} {w w':World} (wr:List (Nat × Nat)) (γ:Gh) (h:Below w.heap.size w w'):GE base wr γ w w' :=
 ⟨fun _ _ _ k=>.inr (k.on h),fun _ _ _ k=>k.on h⟩
theorem GE.refl (base:Nat) (w:World) (wr:List (Nat × Nat)) (γ:Gh):GE base wr γ w w:=GE.below wr γ (Below.refl _ _)
theorem GE.write {base:Nat} {w w':World} {wr:List (Nat × Nat)} {γ:Gh} {g n:Nat} (a k:Nat) (hp:wr.contains (a,k)=true) (hs:Slot w g 0 n) (ht:Touch w w' g 0 n) (ha:γ a=some (.pointer (some ⟨g,0,none⟩))) (hk:γ k=none) (hb:base≤g):GE base wr γ w w':=by
 refine ⟨fun c o x hx=>?_,fun _ _ _ k=>k.touch ht⟩
 by_cases e:c=g
 · subst e
   exact .inl ⟨(a,k),List.contains_iff_mem.1 hp,_,ha,rfl,hk,hb⟩
 · exact .inr (hx.touch hs ht (.inl e))
def VA (base:Nat) (w:World) (v:Value):Prop:=∃ g,v=.pointer (some ⟨g,0,none⟩)∧base≤g∧Slot w g 0 2
def VD (n:Int) (w:World) (v:Value):Prop:=∃ g i,v=.pointer (some ⟨g,i,none⟩)∧IntAt w g i n
def VM (base a:Nat) (n:Int) (γ:Gh) (w:World) (v:Value):Prop:=∃ g,v=.pointer (some ⟨g,0,none⟩)∧γ a=some (.pointer (some ⟨g,0,none⟩))∧base≤g∧IntAt w g 0 n
theorem VA.stable {base:Nat} {wr:List (Nat × Nat)} {γ:Gh} {w w':World} {v:Value} (h:VA base w v) (hE:GE base wr γ w w'):VA base w' v:=by
 obtain ⟨g,h1,h2,h3⟩:=h
 exact ⟨g,h1,h2,hE.slot _ _ _ h3⟩
theorem VD.stable {base:Nat} {w0:World} {ow:List Nat} {wr:List (Nat × Nat)} {γ:Gh} {w w':World} {v:Value} {n:Int} (i:Nat) (h:VD n w v) (hC:GC base w0 ow γ w) (hE:GE base wr γ w w') (hi:γ i=some v) (hb:(ow.contains i&&wr.all fun p=>ow.contains p.1&&p.1 != i)=true):VD n w' v:=by
 obtain ⟨g,o,rfl,h2⟩:=h
 rw [Bool.and_eq_true] at hb
 rcases hE.int _ _ _ h2 with ⟨p,hp,u,k1,k2,_,k4⟩ | k
 · have h3:=List.all_eq_true.1 hb.2 p hp
   rw [Bool.and_eq_true,bne_iff_ne] at h3
   have:=hC.apart i (List.contains_iff_mem.1 hb.1) p.1 (List.contains_iff_mem.1 h3.1) (Ne.symm h3.2) _ _ g hi k1 rfl k2
   omega
 · exact ⟨g,o,rfl,k⟩
theorem VM.stable {base a:Nat} {w0:World} {ow:List Nat} {wr:List (Nat × Nat)} {γ:Gh} {w w':World} {v x:Value} {n:Int} (i k:Nat) (h:VM base a n γ w v) (hC:GC base w0 ow γ w) (hE:GE base wr γ w w') (hk:γ k=none) (hi:γ i=some v) (hb:(ow.contains a&&wr.all fun p=>ow.contains p.1&&(p.1 != a||p.2==i))=true):VM base a n (γ.upd k x) w' v:=by
 obtain ⟨g,rfl,h1,h2,h3⟩:=h
 rw [Bool.and_eq_true] at hb
 rcases hE.int _ _ _ h3 with ⟨p,hp,u,k1,k2,k3,k4⟩ | k5
 · have h4:=List.all_eq_true.1 hb.2 p hp
   rw [Bool.and_eq_true,Bool.or_eq_true,bne_iff_ne,beq_iff_eq] at h4
   by_cases e:p.1=a
   · have:p.2=i:=by rcases h4.2 with h5 | h5; exact absurd e h5; exact h5
     rw [this,hi] at k3
     cases k3
   · have:=hC.apart a (List.contains_iff_mem.1 hb.1) p.1 (List.contains_iff_mem.1 h4.1) (Ne.symm e) _ _ g h1 k1 rfl k2
     omega
 · exact ⟨g,rfl,upd_some h1 hk,h2,k5⟩
def wl (n:Int):Nat:=(dig n.natAbs).length
theorem wl_mul (n m:Int):wl (n*m)≤wl n+wl m:=by
 unfold wl
 refine dig_len_le _ _ ?_
 rw [Int.natAbs_mul,Nat.pow_add]
 exact Nat.mul_lt_mul'' (dig_lt _) (dig_lt _)
theorem wl_add (n m:Int):wl (n+m)≤max (wl n) (wl m)+1:=by
 unfold wl
 refine dig_len_le _ _ ?_
 have h1:=dig_lt n.natAbs
 have h2:=dig_lt m.natAbs
 have h3:4294967296^(dig n.natAbs).length≤4294967296^(max (dig n.natAbs).length (dig m.natAbs).length):=Nat.pow_le_pow_right (by decide) (Nat.le_max_left _ _)
 have h4:4294967296^(dig m.natAbs).length≤4294967296^(max (dig n.natAbs).length (dig m.natAbs).length):=Nat.pow_le_pow_right (by decide) (Nat.le_max_right _ _)
 have h5:=Int.natAbs_add_le n m
 rw [Nat.pow_succ]
 generalize 4294967296^(max (dig n.natAbs).length (dig m.natAbs).length)=M at *
 omega
theorem wl_neg (n:Int):wl (-n)=wl n:=by simp [wl]
theorem wl_sub (n m:Int):wl (n-m)≤max (wl n) (wl m)+1:=by
 have:=wl_add n (-m)
 rw [wl_neg] at this
 rwa [Int.sub_eq_add_neg]
def OkR (q:Rat):Prop:=wl q.num≤1073741824∧wl q.den≤1073741824
theorem OkR.num {q:Rat} (h:OkR q):Okn q.num:=Nat.le_trans h.1 (by decide)
theorem OkR.den {q:Rat} (h:OkR q):Okn q.den:=Nat.le_trans h.2 (by decide)
theorem okn_mul {n m:Int} (h:wl n≤1073741824) (k:wl m≤1073741824):Okn (n*m):=by
 have:=wl_mul n m
 show wl _≤_
 omega
theorem okn_add {n m a b:Int} (h:wl n≤1073741824) (k:wl m≤1073741824) (h':wl a≤1073741824) (k':wl b≤1073741824):Okn (n*m+a*b):=by
 have h1:=wl_mul n m
 have h2:=wl_mul a b
 have h3:=wl_add (n*m) (a*b)
 show wl _≤_
 omega
theorem okn_sub {n m a b:Int} (h:wl n≤1073741824) (k:wl m≤1073741824) (h':wl a≤1073741824) (k':wl b≤1073741824):Okn (n*m-a*b):=by
 have h1:=wl_mul n m
 have h2:=wl_mul a b
 have h3:=wl_sub (n*m) (a*b)
 show wl _≤_
 omega
theorem RatAt.num {w:World} {b o:Nat} {q:Rat} (h:RatAt w b o q):IntAt w b o q.num:=h.2.1
theorem den_ne (x:Rat):(x.den:Int)≠0:=by have:=x.den_pos; omega
theorem divInt_Add (x y:Rat):Rat.divInt (x.num*(y.den:Int)+y.num*(x.den:Int)) ((x.den:Int)*(y.den:Int))=x+y:=by
 rw [Rat.add_def',← Int.natCast_mul]; rfl
set_option maxHeartbeats 1600000 in
set_option maxRecDepth 100000 in
theorem rAdd_any {w:World} {b o c p d q:Nat} {x y:Rat} (hz:Slot w b o 4) (hx:RatAt w c p x) (hy:RatAt w d q y) (kx:OkR x) (ky:OkR y) :
  Calls Tryz.prog 135 #[.pointer (some ⟨b,o,none⟩),.pointer (some ⟨c,p,none⟩),.pointer (some ⟨d,q,none⟩)] w fun e w'=>e=.returned (.pointer (some ⟨b,o,none⟩))∧RatAt w' b o (x+y)∧Touch w w' b o 4:=by
 have HX:=Lib.hid hx
 have HY:=Lib.hid hy
 have HZ:=Lib.hid hz
 have KX:=Lib.hid kx
 have KY:=Lib.hid ky
 clear hx hy hz kx ky
 go_enter Tryz.func135,Tryz.ntmps135
 go_wp2
 refine wp_region_ghost 6 (GC w.heap.size w [0,5]) (fun γ wq _ wr=>GE w.heap.size [] γ wq wr) (fun i γ wq v=>match i with
   | 0=>VA w.heap.size wq v
   | 1=>v=.pointer (some ⟨c,p,none⟩)
   | 2=>v=.pointer (some ⟨c,p,none⟩)
   | 3=>v=.pointer (some ⟨c,p,none⟩)
   | 4=>v=.pointer (some ⟨d,q,none⟩)
   | 5=>VD ((y).den:Int) wq v
   | _=>True) (by kernel_rfl) (by kernel_rfl) (by kernel_rfl) (GC.start _ (Nat.le_refl _)) ?_ ⟨?_,?_,?_,?_,?_,?_,trivial⟩ ?_
 · intro i γ w1 k xq w2 v hC hC2 hE hk hi hV
   match i with
   | 0=>exact VA.stable hV hE
   | 1=>exact hV
   | 2=>exact hV
   | 3=>exact hV
   | 4=>exact hV
   | 5=>exact VD.stable 5 hV hC hE hi rfl
   | _+6=>trivial
 · intro a' γ w' hag hC hk hd K hK
   have hb:Below w'.heap.size w' (w'.alloc (.cells #[.bool false,.slice none 0 0] 177)):=(Below.refl _ _).alloc (Nat.le_refl _) _
   have HK:=Lib.hid (hK (.pointer (some ⟨w'.heap.size,0,none⟩)) _ (hC.own 0 _ _ hb (IntAt.new w').lt (.inr (Nat.le_refl _))) (GE.below _ _ hb) ⟨_,rfl,hC.size,(IntAt.new w').slot⟩)
   clear hb hK hC
   go_step
   exact HK.out
 · intro a' γ w' hag hC hk hd K hK
   have e1:a'.tmps.getD 1 undef=.pointer (some ⟨c,p,none⟩):=hag 1 rfl
   go_step
   exact hK _ _ (hC.step 1 _ rfl (Below.refl _ _)) (GE.refl _ _ _ _) rfl
 · intro a' γ w' hag hC hk hd K hK
   have e9:a'.tmps.getD 9 undef=.pointer (some ⟨c,p,none⟩):=hd.1.2
   go_step
   exact hK _ _ (hC.step 2 _ rfl (Below.refl _ _)) (GE.refl _ _ _ _) rfl
 · intro a' γ w' hag hC hk hd K hK
   have e10:a'.tmps.getD 10 undef=.pointer (some ⟨c,p,none⟩):=hd.1.2
   go_step
   exact hK _ _ (hC.step 3 _ rfl (Below.refl _ _)) (GE.refl _ _ _ _) rfl
 · intro a' γ w' hag hC hk hd K hK
   have e2:a'.tmps.getD 2 undef=.pointer (some ⟨d,q,none⟩):=hag 2 rfl
   go_step
   exact hK _ _ (hC.step 4 _ rfl (Below.refl _ _)) (GE.refl _ _ _ _) rfl
 · intro a' γ w' hag hC hk hd K hK
   have e12:a'.tmps.getD 12 undef=.pointer (some ⟨d,q,none⟩):=hd.1.2
   have hx:=HY.out.on hC.below
   go_step
   refine (den_any hx).mono ?_
   rintro e w2 ⟨g,j,rfl,h1,h2,h3⟩
   exact hK _ _ (hC.own 5 _ _ h2 h1.lt (h3.imp (fun e=>by rw [e]; exact HY.out.lt) id)) (GE.below _ _ h2) ⟨_,_,rfl,h1⟩
 · intro γ u w' hC hgh hall
   obtain ⟨u0,u1,u2,u3,u4,u5,_⟩:=hall
   obtain ⟨g8,eu0,hb8,hs8⟩:=u0
   have u0:u 0=.pointer (some ⟨g8,0,none⟩):=eu0
   have u1:u 1=.pointer (some ⟨c,p,none⟩):=u1
   have u2:u 2=.pointer (some ⟨c,p,none⟩):=u2
   have u3:u 3=.pointer (some ⟨c,p,none⟩):=u3
   have u4:u 4=.pointer (some ⟨d,q,none⟩):=u4
   obtain ⟨g13,i13,eu5,h13⟩:=u5
   have u5:u 5=.pointer (some ⟨g13,i13,none⟩):=eu5
   simp only [fillR,List.take_succ_cons,List.take_zero,Act.put,List.setIfInBounds_toArray,List.set_cons_succ,List.set_cons_zero,Nat.zero_add,Nat.reduceAdd,u0,u1,u2,u3,u4,u5]
   clear u0 u1 u2 u3 u4 u5
   have HC:=Lib.hid hC.below
   have HB8:=Lib.hid hb8
   have HS8:=Lib.hid hs8
   have H13:=Lib.hid h13
   have hx1:=HX.out.on HC.out
   clear hC hb8 hs8 h13
   go_wp2_with fail
   refine (mul_any HS8.out hx1.num H13.out KX.out.num KY.out.den).mono ?_
   rintro e w1 ⟨rfl,h1,h2⟩
   have HB1:Hid (Below w.heap.size w w1):=HC.out.trans (h2.below HB8.out HC.out.size)
   have H1:=Lib.hid h1
   clear h1 h2 hx1 H13 HS8 HC
   have HX1:=Lib.hid (HX.out.on HB1.out)
   have HY1:=Lib.hid (HY.out.on HB1.out)
   go_wp2
   refine wp_region_ghost 9 (GC w1.heap.size w1 [2,7]) (fun γ wq _ wr=>GE w1.heap.size [(2,8)] γ wq wr) (fun i γ wq v=>match i with
     | 0=>v=.pointer (some ⟨g8,0,none⟩)
     | 1=>v=.pointer (some ⟨g8,0,none⟩)
     | 2=>VA w1.heap.size wq v
     | 3=>v=.pointer (some ⟨d,q,none⟩)
     | 4=>v=.pointer (some ⟨d,q,none⟩)
     | 5=>v=.pointer (some ⟨d,q,none⟩)
     | 6=>v=.pointer (some ⟨c,p,none⟩)
     | 7=>VD ((x).den:Int) wq v
     | 8=>VM w1.heap.size 2 (y.num*(x.den:Int)) γ wq v
     | _=>True) (by kernel_rfl) (by kernel_rfl) (by kernel_rfl) (GC.start _ (Nat.le_refl _)) ?_ ⟨?_,?_,?_,?_,?_,?_,?_,?_,?_,trivial⟩ ?_
   · intro i γ w1 k xq w2 v hC hC2 hE hk hi hV
     match i with
     | 0=>exact hV
     | 1=>exact hV
     | 2=>exact VA.stable hV hE
     | 3=>exact hV
     | 4=>exact hV
     | 5=>exact hV
     | 6=>exact hV
     | 7=>exact VD.stable 7 hV hC hE hi rfl
     | 8=>exact VM.stable 8 k hV hC hE hk hi rfl
     | _+9=>trivial
   · intro a' γ w' hag hC hk hd K hK
     have e7:a'.tmps.getD 7 undef=.pointer (some ⟨g8,0,none⟩):=hag 7 rfl
     go_step
     exact hK _ _ (hC.step 0 _ rfl (Below.refl _ _)) (GE.refl _ _ _ _) rfl
   · intro a' γ w' hag hC hk hd K hK
     have e7:a'.tmps.getD 7 undef=.pointer (some ⟨g8,0,none⟩):=hag 7 rfl
     go_step
     exact hK _ _ (hC.step 1 _ rfl (Below.refl _ _)) (GE.refl _ _ _ _) rfl
   · intro a' γ w' hag hC hk hd K hK
     have hb:Below w'.heap.size w' (w'.alloc (.cells #[.bool false,.slice none 0 0] 177)):=(Below.refl _ _).alloc (Nat.le_refl _) _
     have HK:=Lib.hid (hK (.pointer (some ⟨w'.heap.size,0,none⟩)) _ (hC.own 2 _ _ hb (IntAt.new w').lt (.inr (Nat.le_refl _))) (GE.below _ _ hb) ⟨_,rfl,hC.size,(IntAt.new w').slot⟩)
     clear hb hK hC
     go_step
     exact HK.out
   · intro a' γ w' hag hC hk hd K hK
     have e2:a'.tmps.getD 2 undef=.pointer (some ⟨d,q,none⟩):=hag 2 rfl
     go_step
     exact hK _ _ (hC.step 3 _ rfl (Below.refl _ _)) (GE.refl _ _ _ _) rfl
   · intro a' γ w' hag hC hk hd K hK
     have e18:a'.tmps.getD 18 undef=.pointer (some ⟨d,q,none⟩):=hd.1.2
     go_step
     exact hK _ _ (hC.step 4 _ rfl (Below.refl _ _)) (GE.refl _ _ _ _) rfl
   · intro a' γ w' hag hC hk hd K hK
     have e19:a'.tmps.getD 19 undef=.pointer (some ⟨d,q,none⟩):=hd.1.2
     go_step
     exact hK _ _ (hC.step 5 _ rfl (Below.refl _ _)) (GE.refl _ _ _ _) rfl
   · intro a' γ w' hag hC hk hd K hK
     have e1:a'.tmps.getD 1 undef=.pointer (some ⟨c,p,none⟩):=hag 1 rfl
     go_step
     exact hK _ _ (hC.step 6 _ rfl (Below.refl _ _)) (GE.refl _ _ _ _) rfl
   · intro a' γ w' hag hC hk hd K hK
     have e21:a'.tmps.getD 21 undef=.pointer (some ⟨c,p,none⟩):=hd.1.2
     have hx:=HX1.out.on hC.below
     go_step
     refine (den_any hx).mono ?_
     rintro e w2 ⟨g,j,rfl,h1,h2,h3⟩
     exact hK _ _ (hC.own 7 _ _ h2 h1.lt (h3.imp (fun e=>by rw [e]; exact HX1.out.lt) id)) (GE.below _ _ h2) ⟨_,_,rfl,h1⟩
   · intro a' γ w' hag hC hk hd K hK
     have q17:VA w1.heap.size w' (a'.tmps.getD 17 undef):=hd.1.2
     have gg17:γ 2=some (a'.tmps.getD 17 undef):=hd.1.1
     obtain ⟨g17,e17,hb17,hs17⟩:=q17
     rw [e17] at gg17
     have e17:a'.tmps.getD 17 undef=.pointer (some ⟨g17,0,none⟩):=e17
     have e20:a'.tmps.getD 20 undef=.pointer (some ⟨d,q,none⟩):=hd.2.1.2
     have q22:VD ((x).den:Int) w' (a'.tmps.getD 22 undef):=hd.2.2.1.2
     have gg22:γ 7=some (a'.tmps.getD 22 undef):=hd.2.2.1.1
     obtain ⟨g22,i22,e22,h22⟩:=q22
     rw [e22] at gg22
     have e22:a'.tmps.getD 22 undef=.pointer (some ⟨g22,i22,none⟩):=e22
     have hx:=Lib.hid (mul_any hs17 (HY1.out.on hC.below).num h22 KY.out.num KX.out.den)
     go_step
     refine hx.out.mono ?_
     rintro e w2 ⟨rfl,h1,h2⟩
     exact hK _ _ (hC.step 8 _ rfl (h2.below hb17 hC.size)) (GE.write 2 8 rfl hs17 h2 gg17 hk hb17) ⟨_,rfl,upd_some gg17 hk,hb17,h1⟩
   · intro γ u w' hC hgh hall
     obtain ⟨u0,u1,u2,u3,u4,u5,u6,u7,u8,_⟩:=hall
     have u0:u 0=.pointer (some ⟨g8,0,none⟩):=u0
     have u1:u 1=.pointer (some ⟨g8,0,none⟩):=u1
     have u3:u 3=.pointer (some ⟨d,q,none⟩):=u3
     have u4:u 4=.pointer (some ⟨d,q,none⟩):=u4
     have u5:u 5=.pointer (some ⟨d,q,none⟩):=u5
     have u6:u 6=.pointer (some ⟨c,p,none⟩):=u6
     obtain ⟨g23,eu8,ga23,hb23,h23⟩:=u8
     have u8:u 8=.pointer (some ⟨g23,0,none⟩):=eu8
     simp only [fillR,List.take_succ_cons,List.take_zero,Act.put,List.setIfInBounds_toArray,List.set_cons_succ,List.set_cons_zero,Nat.zero_add,Nat.reduceAdd,u0,u1,u3,u4,u5,u6,u8]
     clear u0 u1 u3 u4 u5 u6 u8
     have HC2:=Lib.hid hC.below
     have H23:=Lib.hid h23
     have h1':=H1.out.on HC2.out
     clear hC h23 ga23 hb23
     go_wp2_with fail
     refine (Add_any h1'.slot h1' H23.out (okn_mul KX.out.1 KY.out.2) (okn_mul KY.out.1 KX.out.2)).mono ?_
     rintro e w3 ⟨rfl,h2,h3⟩
     have HB3:Hid (Below w.heap.size w w3):=(HB1.out.trans (HC2.out.mono HB1.out.size)).trans (h3.below HB8.out (Nat.le_trans HB1.out.size HC2.out.size))
     have HN:=Lib.hid h2
     clear h1' h2 h3 H23 HC2 HX1 HY1 HB1 H1
     have ha:Below w3.heap.size w3 (w3.alloc (.cells #[.bool false,.slice none 0 0] 177)):=(Below.refl _ _).alloc (Nat.le_refl _) _
     have hx3:=(HX.out.on HB3.out).on ha
     go_wp2_with fail
     refine (den_any hx3).mono ?_
     rintro e w4 ⟨gx,ix,rfl,h1,h2,h3⟩
     have hb4:=ha.trans (h2.mono ha.size)
     have HB4:=Lib.hid hb4
     have HDX:=Lib.hid h1
     have HNX:Hid (gx≠w3.heap.size):=by
      have h4:=ha.size
      have h5:=HX.out.lt
      have h6:=HB3.out.size
      have h7:(w3.alloc (.cells #[.bool false,.slice none 0 0] 177)).heap.size=w3.heap.size+1:=by simp [World.alloc_eq]
      unfold Hid
      omega
     have HS:Hid (Slot w4 w3.heap.size 0 2):=(IntAt.new w3).slot.on h2
     clear h1 h2 h3 hx3 ha hb4
     have hy4:=(HY.out.on HB3.out).on HB4.out
     go_wp2_with fail
     refine (den_any hy4).mono ?_
     rintro e w5 ⟨gy,iy,rfl,h1,h2,h3⟩
     have hs5:=HS.out.on h2
     have hd5:=HDX.out.on h2
     have HB5:Hid (Below w3.heap.size w3 w5):=HB4.out.trans (h2.mono HB4.out.size)
     have HDY:=Lib.hid h1
     clear h1 h2 h3 hy4
     go_wp2_with fail
     refine (mul_any hs5 hd5 HDY.out KX.out.den KY.out.den).mono ?_
     rintro e w6 ⟨rfl,h1,h2⟩
     have HB6:Hid (Below w3.heap.size w3 w6):=HB5.out.trans (h2.below (Nat.le_refl _) HB5.out.size)
     have HD:=Lib.hid h1
     clear h1 h2 hs5 hd5 HDX HDY HS HB4 HB5 HNX
     have hz6:=(HZ.out.on HB3.out).on HB6.out
     have hn6:=HN.out.on HB6.out
     go_wp2_with fail
     refine (SetFrac_any hz6 hn6 HD.out (Int.mul_ne_zero (den_ne x) (den_ne y)) (okn_add KX.out.1 KY.out.2 KY.out.1 KX.out.2) (okn_mul KX.out.2 KY.out.2)).mono ?_
     rintro e w7 ⟨rfl,h1,h2⟩
     rw [divInt_Add] at h1
     have H1:=Lib.hid h1
     have HT:=Lib.hid ((Touch.of_below (HB3.out.trans (HB6.out.mono HB3.out.size)) b o 4).trans h2)
     clear h1 h2 hz6 hn6
     go_wp2
     go_ret
     exact ⟨rfl,H1.out,HT.out⟩
theorem divInt_Sub (x y:Rat):Rat.divInt (x.num*(y.den:Int)-y.num*(x.den:Int)) ((x.den:Int)*(y.den:Int))=x-y:=by
 rw [Rat.sub_def',← Int.natCast_mul]; rfl
set_option maxHeartbeats 1600000 in
set_option maxRecDepth 100000 in
theorem rSub_any {w:World} {b o c p d q:Nat} {x y:Rat} (hz:Slot w b o 4) (hx:RatAt w c p x) (hy:RatAt w d q y) (kx:OkR x) (ky:OkR y) :
  Calls Tryz.prog 139 #[.pointer (some ⟨b,o,none⟩),.pointer (some ⟨c,p,none⟩),.pointer (some ⟨d,q,none⟩)] w fun e w'=>e=.returned (.pointer (some ⟨b,o,none⟩))∧RatAt w' b o (x-y)∧Touch w w' b o 4:=by
 have HX:=Lib.hid hx
 have HY:=Lib.hid hy
 have HZ:=Lib.hid hz
 have KX:=Lib.hid kx
 have KY:=Lib.hid ky
 clear hx hy hz kx ky
 go_enter Tryz.func139,Tryz.ntmps139
 go_wp2
 refine wp_region_ghost 6 (GC w.heap.size w [0,5]) (fun γ wq _ wr=>GE w.heap.size [] γ wq wr) (fun i γ wq v=>match i with
   | 0=>VA w.heap.size wq v
   | 1=>v=.pointer (some ⟨c,p,none⟩)
   | 2=>v=.pointer (some ⟨c,p,none⟩)
   | 3=>v=.pointer (some ⟨c,p,none⟩)
   | 4=>v=.pointer (some ⟨d,q,none⟩)
   | 5=>VD ((y).den:Int) wq v
   | _=>True) (by kernel_rfl) (by kernel_rfl) (by kernel_rfl) (GC.start _ (Nat.le_refl _)) ?_ ⟨?_,?_,?_,?_,?_,?_,trivial⟩ ?_
 · intro i γ w1 k xq w2 v hC hC2 hE hk hi hV
   match i with
   | 0=>exact VA.stable hV hE
   | 1=>exact hV
   | 2=>exact hV
   | 3=>exact hV
   | 4=>exact hV
   | 5=>exact VD.stable 5 hV hC hE hi rfl
   | _+6=>trivial
 · intro a' γ w' hag hC hk hd K hK
   have hb:Below w'.heap.size w' (w'.alloc (.cells #[.bool false,.slice none 0 0] 177)):=(Below.refl _ _).alloc (Nat.le_refl _) _
   have HK:=Lib.hid (hK (.pointer (some ⟨w'.heap.size,0,none⟩)) _ (hC.own 0 _ _ hb (IntAt.new w').lt (.inr (Nat.le_refl _))) (GE.below _ _ hb) ⟨_,rfl,hC.size,(IntAt.new w').slot⟩)
   clear hb hK hC
   go_step
   exact HK.out
 · intro a' γ w' hag hC hk hd K hK
   have e1:a'.tmps.getD 1 undef=.pointer (some ⟨c,p,none⟩):=hag 1 rfl
   go_step
   exact hK _ _ (hC.step 1 _ rfl (Below.refl _ _)) (GE.refl _ _ _ _) rfl
 · intro a' γ w' hag hC hk hd K hK
   have e9:a'.tmps.getD 9 undef=.pointer (some ⟨c,p,none⟩):=hd.1.2
   go_step
   exact hK _ _ (hC.step 2 _ rfl (Below.refl _ _)) (GE.refl _ _ _ _) rfl
 · intro a' γ w' hag hC hk hd K hK
   have e10:a'.tmps.getD 10 undef=.pointer (some ⟨c,p,none⟩):=hd.1.2
   go_step
   exact hK _ _ (hC.step 3 _ rfl (Below.refl _ _)) (GE.refl _ _ _ _) rfl
 · intro a' γ w' hag hC hk hd K hK
   have e2:a'.tmps.getD 2 undef=.pointer (some ⟨d,q,none⟩):=hag 2 rfl
   go_step
   exact hK _ _ (hC.step 4 _ rfl (Below.refl _ _)) (GE.refl _ _ _ _) rfl
 · intro a' γ w' hag hC hk hd K hK
   have e12:a'.tmps.getD 12 undef=.pointer (some ⟨d,q,none⟩):=hd.1.2
   have hx:=HY.out.on hC.below
   go_step
   refine (den_any hx).mono ?_
   rintro e w2 ⟨g,j,rfl,h1,h2,h3⟩
   exact hK _ _ (hC.own 5 _ _ h2 h1.lt (h3.imp (fun e=>by rw [e]; exact HY.out.lt) id)) (GE.below _ _ h2) ⟨_,_,rfl,h1⟩
 · intro γ u w' hC hgh hall
   obtain ⟨u0,u1,u2,u3,u4,u5,_⟩:=hall
   obtain ⟨g8,eu0,hb8,hs8⟩:=u0
   have u0:u 0=.pointer (some ⟨g8,0,none⟩):=eu0
   have u1:u 1=.pointer (some ⟨c,p,none⟩):=u1
   have u2:u 2=.pointer (some ⟨c,p,none⟩):=u2
   have u3:u 3=.pointer (some ⟨c,p,none⟩):=u3
   have u4:u 4=.pointer (some ⟨d,q,none⟩):=u4
   obtain ⟨g13,i13,eu5,h13⟩:=u5
   have u5:u 5=.pointer (some ⟨g13,i13,none⟩):=eu5
   simp only [fillR,List.take_succ_cons,List.take_zero,Act.put,List.setIfInBounds_toArray,List.set_cons_succ,List.set_cons_zero,Nat.zero_add,Nat.reduceAdd,u0,u1,u2,u3,u4,u5]
   clear u0 u1 u2 u3 u4 u5
   have HC:=Lib.hid hC.below
   have HB8:=Lib.hid hb8
   have HS8:=Lib.hid hs8
   have H13:=Lib.hid h13
   have hx1:=HX.out.on HC.out
   clear hC hb8 hs8 h13
   go_wp2_with fail
   refine (mul_any HS8.out hx1.num H13.out KX.out.num KY.out.den).mono ?_
   rintro e w1 ⟨rfl,h1,h2⟩
   have HB1:Hid (Below w.heap.size w w1):=HC.out.trans (h2.below HB8.out HC.out.size)
   have H1:=Lib.hid h1
   clear h1 h2 hx1 H13 HS8 HC
   have HX1:=Lib.hid (HX.out.on HB1.out)
   have HY1:=Lib.hid (HY.out.on HB1.out)
   go_wp2
   refine wp_region_ghost 9 (GC w1.heap.size w1 [2,7]) (fun γ wq _ wr=>GE w1.heap.size [(2,8)] γ wq wr) (fun i γ wq v=>match i with
     | 0=>v=.pointer (some ⟨g8,0,none⟩)
     | 1=>v=.pointer (some ⟨g8,0,none⟩)
     | 2=>VA w1.heap.size wq v
     | 3=>v=.pointer (some ⟨d,q,none⟩)
     | 4=>v=.pointer (some ⟨d,q,none⟩)
     | 5=>v=.pointer (some ⟨d,q,none⟩)
     | 6=>v=.pointer (some ⟨c,p,none⟩)
     | 7=>VD ((x).den:Int) wq v
     | 8=>VM w1.heap.size 2 (y.num*(x.den:Int)) γ wq v
     | _=>True) (by kernel_rfl) (by kernel_rfl) (by kernel_rfl) (GC.start _ (Nat.le_refl _)) ?_ ⟨?_,?_,?_,?_,?_,?_,?_,?_,?_,trivial⟩ ?_
   · intro i γ w1 k xq w2 v hC hC2 hE hk hi hV
     match i with
     | 0=>exact hV
     | 1=>exact hV
     | 2=>exact VA.stable hV hE
     | 3=>exact hV
     | 4=>exact hV
     | 5=>exact hV
     | 6=>exact hV
     | 7=>exact VD.stable 7 hV hC hE hi rfl
     | 8=>exact VM.stable 8 k hV hC hE hk hi rfl
     | _+9=>trivial
   · intro a' γ w' hag hC hk hd K hK
     have e7:a'.tmps.getD 7 undef=.pointer (some ⟨g8,0,none⟩):=hag 7 rfl
     go_step
     exact hK _ _ (hC.step 0 _ rfl (Below.refl _ _)) (GE.refl _ _ _ _) rfl
   · intro a' γ w' hag hC hk hd K hK
     have e7:a'.tmps.getD 7 undef=.pointer (some ⟨g8,0,none⟩):=hag 7 rfl
     go_step
     exact hK _ _ (hC.step 1 _ rfl (Below.refl _ _)) (GE.refl _ _ _ _) rfl
   · intro a' γ w' hag hC hk hd K hK
     have hb:Below w'.heap.size w' (w'.alloc (.cells #[.bool false,.slice none 0 0] 177)):=(Below.refl _ _).alloc (Nat.le_refl _) _
     have HK:=Lib.hid (hK (.pointer (some ⟨w'.heap.size,0,none⟩)) _ (hC.own 2 _ _ hb (IntAt.new w').lt (.inr (Nat.le_refl _))) (GE.below _ _ hb) ⟨_,rfl,hC.size,(IntAt.new w').slot⟩)
     clear hb hK hC
     go_step
     exact HK.out
   · intro a' γ w' hag hC hk hd K hK
     have e2:a'.tmps.getD 2 undef=.pointer (some ⟨d,q,none⟩):=hag 2 rfl
     go_step
     exact hK _ _ (hC.step 3 _ rfl (Below.refl _ _)) (GE.refl _ _ _ _) rfl
   · intro a' γ w' hag hC hk hd K hK
     have e18:a'.tmps.getD 18 undef=.pointer (some ⟨d,q,none⟩):=hd.1.2
     go_step
     exact hK _ _ (hC.step 4 _ rfl (Below.refl _ _)) (GE.refl _ _ _ _) rfl
   · intro a' γ w' hag hC hk hd K hK
     have e19:a'.tmps.getD 19 undef=.pointer (some ⟨d,q,none⟩):=hd.1.2
     go_step
     exact hK _ _ (hC.step 5 _ rfl (Below.refl _ _)) (GE.refl _ _ _ _) rfl
   · intro a' γ w' hag hC hk hd K hK
     have e1:a'.tmps.getD 1 undef=.pointer (some ⟨c,p,none⟩):=hag 1 rfl
     go_step
     exact hK _ _ (hC.step 6 _ rfl (Below.refl _ _)) (GE.refl _ _ _ _) rfl
   · intro a' γ w' hag hC hk hd K hK
     have e21:a'.tmps.getD 21 undef=.pointer (some ⟨c,p,none⟩):=hd.1.2
     have hx:=HX1.out.on hC.below
     go_step
     refine (den_any hx).mono ?_
     rintro e w2 ⟨g,j,rfl,h1,h2,h3⟩
     exact hK _ _ (hC.own 7 _ _ h2 h1.lt (h3.imp (fun e=>by rw [e]; exact HX1.out.lt) id)) (GE.below _ _ h2) ⟨_,_,rfl,h1⟩
   · intro a' γ w' hag hC hk hd K hK
     have q17:VA w1.heap.size w' (a'.tmps.getD 17 undef):=hd.1.2
     have gg17:γ 2=some (a'.tmps.getD 17 undef):=hd.1.1
     obtain ⟨g17,e17,hb17,hs17⟩:=q17
     rw [e17] at gg17
     have e17:a'.tmps.getD 17 undef=.pointer (some ⟨g17,0,none⟩):=e17
     have e20:a'.tmps.getD 20 undef=.pointer (some ⟨d,q,none⟩):=hd.2.1.2
     have q22:VD ((x).den:Int) w' (a'.tmps.getD 22 undef):=hd.2.2.1.2
     have gg22:γ 7=some (a'.tmps.getD 22 undef):=hd.2.2.1.1
     obtain ⟨g22,i22,e22,h22⟩:=q22
     rw [e22] at gg22
     have e22:a'.tmps.getD 22 undef=.pointer (some ⟨g22,i22,none⟩):=e22
     have hx:=Lib.hid (mul_any hs17 (HY1.out.on hC.below).num h22 KY.out.num KX.out.den)
     go_step
     refine hx.out.mono ?_
     rintro e w2 ⟨rfl,h1,h2⟩
     exact hK _ _ (hC.step 8 _ rfl (h2.below hb17 hC.size)) (GE.write 2 8 rfl hs17 h2 gg17 hk hb17) ⟨_,rfl,upd_some gg17 hk,hb17,h1⟩
   · intro γ u w' hC hgh hall
     obtain ⟨u0,u1,u2,u3,u4,u5,u6,u7,u8,_⟩:=hall
     have u0:u 0=.pointer (some ⟨g8,0,none⟩):=u0
     have u1:u 1=.pointer (some ⟨g8,0,none⟩):=u1
     have u3:u 3=.pointer (some ⟨d,q,none⟩):=u3
     have u4:u 4=.pointer (some ⟨d,q,none⟩):=u4
     have u5:u 5=.pointer (some ⟨d,q,none⟩):=u5
     have u6:u 6=.pointer (some ⟨c,p,none⟩):=u6
     obtain ⟨g23,eu8,ga23,hb23,h23⟩:=u8
     have u8:u 8=.pointer (some ⟨g23,0,none⟩):=eu8
     simp only [fillR,List.take_succ_cons,List.take_zero,Act.put,List.setIfInBounds_toArray,List.set_cons_succ,List.set_cons_zero,Nat.zero_add,Nat.reduceAdd,u0,u1,u3,u4,u5,u6,u8]
     clear u0 u1 u3 u4 u5 u6 u8
     have HC2:=Lib.hid hC.below
     have H23:=Lib.hid h23
     have h1':=H1.out.on HC2.out
     clear hC h23 ga23 hb23
     go_wp2_with fail
     refine (Sub_any h1'.slot h1' H23.out (okn_mul KX.out.1 KY.out.2) (okn_mul KY.out.1 KX.out.2)).mono ?_
     rintro e w3 ⟨rfl,h2,h3⟩
     have HB3:Hid (Below w.heap.size w w3):=(HB1.out.trans (HC2.out.mono HB1.out.size)).trans (h3.below HB8.out (Nat.le_trans HB1.out.size HC2.out.size))
     have HN:=Lib.hid h2
     clear h1' h2 h3 H23 HC2 HX1 HY1 HB1 H1
     have ha:Below w3.heap.size w3 (w3.alloc (.cells #[.bool false,.slice none 0 0] 177)):=(Below.refl _ _).alloc (Nat.le_refl _) _
     have hx3:=(HX.out.on HB3.out).on ha
     go_wp2_with fail
     refine (den_any hx3).mono ?_
     rintro e w4 ⟨gx,ix,rfl,h1,h2,h3⟩
     have hb4:=ha.trans (h2.mono ha.size)
     have HB4:=Lib.hid hb4
     have HDX:=Lib.hid h1
     have HNX:Hid (gx≠w3.heap.size):=by
      have h4:=ha.size
      have h5:=HX.out.lt
      have h6:=HB3.out.size
      have h7:(w3.alloc (.cells #[.bool false,.slice none 0 0] 177)).heap.size=w3.heap.size+1:=by simp [World.alloc_eq]
      unfold Hid
      omega
     have HS:Hid (Slot w4 w3.heap.size 0 2):=(IntAt.new w3).slot.on h2
     clear h1 h2 h3 hx3 ha hb4
     have hy4:=(HY.out.on HB3.out).on HB4.out
     go_wp2_with fail
     refine (den_any hy4).mono ?_
     rintro e w5 ⟨gy,iy,rfl,h1,h2,h3⟩
     have hs5:=HS.out.on h2
     have hd5:=HDX.out.on h2
     have HB5:Hid (Below w3.heap.size w3 w5):=HB4.out.trans (h2.mono HB4.out.size)
     have HDY:=Lib.hid h1
     clear h1 h2 h3 hy4
     go_wp2_with fail
     refine (mul_any hs5 hd5 HDY.out KX.out.den KY.out.den).mono ?_
     rintro e w6 ⟨rfl,h1,h2⟩
     have HB6:Hid (Below w3.heap.size w3 w6):=HB5.out.trans (h2.below (Nat.le_refl _) HB5.out.size)
     have HD:=Lib.hid h1
     clear h1 h2 hs5 hd5 HDX HDY HS HB4 HB5 HNX
     have hz6:=(HZ.out.on HB3.out).on HB6.out
     have hn6:=HN.out.on HB6.out
     go_wp2_with fail
     refine (SetFrac_any hz6 hn6 HD.out (Int.mul_ne_zero (den_ne x) (den_ne y)) (okn_sub KX.out.1 KY.out.2 KY.out.1 KX.out.2) (okn_mul KX.out.2 KY.out.2)).mono ?_
     rintro e w7 ⟨rfl,h1,h2⟩
     rw [divInt_Sub] at h1
     have H1:=Lib.hid h1
     have HT:=Lib.hid ((Touch.of_below (HB3.out.trans (HB6.out.mono HB3.out.size)) b o 4).trans h2)
     clear h1 h2 hz6 hn6
     go_wp2
     go_ret
     exact ⟨rfl,H1.out,HT.out⟩
def cmpQ (x y:Rat):Int:=if x<y then -1 else if y<x then 1 else 0
theorem cmpQ_of (x y:Rat):cmpI (x.num*(y.den:Int)) (y.num*(x.den:Int))=cmpQ x y:=by
 simp only [cmpI,cmpQ,Rat.lt_iff]
set_option maxHeartbeats 1600000 in
set_option maxRecDepth 100000 in
theorem rCmp_any {w:World} {c p d q:Nat} {x y:Rat} (hx:RatAt w c p x) (hy:RatAt w d q y) (kx:OkR x) (ky:OkR y) :
  Calls Tryz.prog 138 #[.pointer (some ⟨c,p,none⟩),.pointer (some ⟨d,q,none⟩)] w fun e w'=>e=.returned (.int .i64 (cmpQ x y))∧Below w.heap.size w w':=by
 have HX:=Lib.hid hx
 have HY:=Lib.hid hy
 have KX:=Lib.hid kx
 have KY:=Lib.hid ky
 clear hx hy kx ky
 go_enter Tryz.func138,Tryz.ntmps138
 go_wp2
 refine wp_region_ghost 14 (GC w.heap.size w [0,5,7,12]) (fun γ wq _ wr=>GE w.heap.size [(0,6),(7,13)] γ wq wr) (fun i γ wq v=>match i with
   | 0=>VA w.heap.size wq v
   | 1=>v=.pointer (some ⟨c,p,none⟩)
   | 2=>v=.pointer (some ⟨c,p,none⟩)
   | 3=>v=.pointer (some ⟨c,p,none⟩)
   | 4=>v=.pointer (some ⟨d,q,none⟩)
   | 5=>VD ((y).den:Int) wq v
   | 6=>VM w.heap.size 0 (x.num*(y.den:Int)) γ wq v
   | 7=>VA w.heap.size wq v
   | 8=>v=.pointer (some ⟨d,q,none⟩)
   | 9=>v=.pointer (some ⟨d,q,none⟩)
   | 10=>v=.pointer (some ⟨d,q,none⟩)
   | 11=>v=.pointer (some ⟨c,p,none⟩)
   | 12=>VD ((x).den:Int) wq v
   | 13=>VM w.heap.size 7 (y.num*(x.den:Int)) γ wq v
   | _=>True) (by kernel_rfl) (by kernel_rfl) (by kernel_rfl) (GC.start _ (Nat.le_refl _)) ?_ ⟨?_,?_,?_,?_,?_,?_,?_,?_,?_,?_,?_,?_,?_,?_,trivial⟩ ?_
 · intro i γ w1 k xq w2 v hC hC2 hE hk hi hV
   match i with
   | 0=>exact VA.stable hV hE
   | 1=>exact hV
   | 2=>exact hV
   | 3=>exact hV
   | 4=>exact hV
   | 5=>exact VD.stable 5 hV hC hE hi rfl
   | 6=>exact VM.stable 6 k hV hC hE hk hi rfl
   | 7=>exact VA.stable hV hE
   | 8=>exact hV
   | 9=>exact hV
   | 10=>exact hV
   | 11=>exact hV
   | 12=>exact VD.stable 12 hV hC hE hi rfl
   | 13=>exact VM.stable 13 k hV hC hE hk hi rfl
   | _+14=>trivial
 · intro a' γ w' hag hC hk hd K hK
   have hb:Below w'.heap.size w' (w'.alloc (.cells #[.bool false,.slice none 0 0] 177)):=(Below.refl _ _).alloc (Nat.le_refl _) _
   have HK:=Lib.hid (hK (.pointer (some ⟨w'.heap.size,0,none⟩)) _ (hC.own 0 _ _ hb (IntAt.new w').lt (.inr (Nat.le_refl _))) (GE.below _ _ hb) ⟨_,rfl,hC.size,(IntAt.new w').slot⟩)
   clear hb hK hC
   go_step
   exact HK.out
 · intro a' γ w' hag hC hk hd K hK
   have e0:a'.tmps.getD 0 undef=.pointer (some ⟨c,p,none⟩):=hag 0 rfl
   go_step
   exact hK _ _ (hC.step 1 _ rfl (Below.refl _ _)) (GE.refl _ _ _ _) rfl
 · intro a' γ w' hag hC hk hd K hK
   have e6:a'.tmps.getD 6 undef=.pointer (some ⟨c,p,none⟩):=hd.1.2
   go_step
   exact hK _ _ (hC.step 2 _ rfl (Below.refl _ _)) (GE.refl _ _ _ _) rfl
 · intro a' γ w' hag hC hk hd K hK
   have e7:a'.tmps.getD 7 undef=.pointer (some ⟨c,p,none⟩):=hd.1.2
   go_step
   exact hK _ _ (hC.step 3 _ rfl (Below.refl _ _)) (GE.refl _ _ _ _) rfl
 · intro a' γ w' hag hC hk hd K hK
   have e1:a'.tmps.getD 1 undef=.pointer (some ⟨d,q,none⟩):=hag 1 rfl
   go_step
   exact hK _ _ (hC.step 4 _ rfl (Below.refl _ _)) (GE.refl _ _ _ _) rfl
 · intro a' γ w' hag hC hk hd K hK
   have e9:a'.tmps.getD 9 undef=.pointer (some ⟨d,q,none⟩):=hd.1.2
   have hx:=HY.out.on hC.below
   go_step
   refine (den_any hx).mono ?_
   rintro e w2 ⟨g,j,rfl,h1,h2,h3⟩
   exact hK _ _ (hC.own 5 _ _ h2 h1.lt (h3.imp (fun e=>by rw [e]; exact HY.out.lt) id)) (GE.below _ _ h2) ⟨_,_,rfl,h1⟩
 · intro a' γ w' hag hC hk hd K hK
   have q5:VA w.heap.size w' (a'.tmps.getD 5 undef):=hd.1.2
   have gg5:γ 0=some (a'.tmps.getD 5 undef):=hd.1.1
   obtain ⟨g5,e5,hb5,hs5⟩:=q5
   rw [e5] at gg5
   have e5:a'.tmps.getD 5 undef=.pointer (some ⟨g5,0,none⟩):=e5
   have e8:a'.tmps.getD 8 undef=.pointer (some ⟨c,p,none⟩):=hd.2.1.2
   have q10:VD ((y).den:Int) w' (a'.tmps.getD 10 undef):=hd.2.2.1.2
   have gg10:γ 5=some (a'.tmps.getD 10 undef):=hd.2.2.1.1
   obtain ⟨g10,i10,e10,h10⟩:=q10
   rw [e10] at gg10
   have e10:a'.tmps.getD 10 undef=.pointer (some ⟨g10,i10,none⟩):=e10
   have hx:=Lib.hid (mul_any hs5 (HX.out.on hC.below).num h10 KX.out.num KY.out.den)
   go_step
   refine hx.out.mono ?_
   rintro e w2 ⟨rfl,h1,h2⟩
   exact hK _ _ (hC.step 6 _ rfl (h2.below hb5 hC.size)) (GE.write 0 6 rfl hs5 h2 gg5 hk hb5) ⟨_,rfl,upd_some gg5 hk,hb5,h1⟩
 · intro a' γ w' hag hC hk hd K hK
   have hb:Below w'.heap.size w' (w'.alloc (.cells #[.bool false,.slice none 0 0] 177)):=(Below.refl _ _).alloc (Nat.le_refl _) _
   have HK:=Lib.hid (hK (.pointer (some ⟨w'.heap.size,0,none⟩)) _ (hC.own 7 _ _ hb (IntAt.new w').lt (.inr (Nat.le_refl _))) (GE.below _ _ hb) ⟨_,rfl,hC.size,(IntAt.new w').slot⟩)
   clear hb hK hC
   go_step
   exact HK.out
 · intro a' γ w' hag hC hk hd K hK
   have e1:a'.tmps.getD 1 undef=.pointer (some ⟨d,q,none⟩):=hag 1 rfl
   go_step
   exact hK _ _ (hC.step 8 _ rfl (Below.refl _ _)) (GE.refl _ _ _ _) rfl
 · intro a' γ w' hag hC hk hd K hK
   have e13:a'.tmps.getD 13 undef=.pointer (some ⟨d,q,none⟩):=hd.1.2
   go_step
   exact hK _ _ (hC.step 9 _ rfl (Below.refl _ _)) (GE.refl _ _ _ _) rfl
 · intro a' γ w' hag hC hk hd K hK
   have e14:a'.tmps.getD 14 undef=.pointer (some ⟨d,q,none⟩):=hd.1.2
   go_step
   exact hK _ _ (hC.step 10 _ rfl (Below.refl _ _)) (GE.refl _ _ _ _) rfl
 · intro a' γ w' hag hC hk hd K hK
   have e0:a'.tmps.getD 0 undef=.pointer (some ⟨c,p,none⟩):=hag 0 rfl
   go_step
   exact hK _ _ (hC.step 11 _ rfl (Below.refl _ _)) (GE.refl _ _ _ _) rfl
 · intro a' γ w' hag hC hk hd K hK
   have e16:a'.tmps.getD 16 undef=.pointer (some ⟨c,p,none⟩):=hd.1.2
   have hx:=HX.out.on hC.below
   go_step
   refine (den_any hx).mono ?_
   rintro e w2 ⟨g,j,rfl,h1,h2,h3⟩
   exact hK _ _ (hC.own 12 _ _ h2 h1.lt (h3.imp (fun e=>by rw [e]; exact HX.out.lt) id)) (GE.below _ _ h2) ⟨_,_,rfl,h1⟩
 · intro a' γ w' hag hC hk hd K hK
   have q12:VA w.heap.size w' (a'.tmps.getD 12 undef):=hd.1.2
   have gg12:γ 7=some (a'.tmps.getD 12 undef):=hd.1.1
   obtain ⟨g12,e12,hb12,hs12⟩:=q12
   rw [e12] at gg12
   have e12:a'.tmps.getD 12 undef=.pointer (some ⟨g12,0,none⟩):=e12
   have e15:a'.tmps.getD 15 undef=.pointer (some ⟨d,q,none⟩):=hd.2.1.2
   have q17:VD ((x).den:Int) w' (a'.tmps.getD 17 undef):=hd.2.2.1.2
   have gg17:γ 12=some (a'.tmps.getD 17 undef):=hd.2.2.1.1
   obtain ⟨g17,i17,e17,h17⟩:=q17
   rw [e17] at gg17
   have e17:a'.tmps.getD 17 undef=.pointer (some ⟨g17,i17,none⟩):=e17
   have hx:=Lib.hid (mul_any hs12 (HY.out.on hC.below).num h17 KY.out.num KX.out.den)
   go_step
   refine hx.out.mono ?_
   rintro e w2 ⟨rfl,h1,h2⟩
   exact hK _ _ (hC.step 13 _ rfl (h2.below hb12 hC.size)) (GE.write 7 13 rfl hs12 h2 gg12 hk hb12) ⟨_,rfl,upd_some gg12 hk,hb12,h1⟩
 · intro γ u w' hC hgh hall
   obtain ⟨u0,u1,u2,u3,u4,u5,u6,u7,u8,u9,u10,u11,u12,u13,_⟩:=hall
   have u1:u 1=.pointer (some ⟨c,p,none⟩):=u1
   have u2:u 2=.pointer (some ⟨c,p,none⟩):=u2
   have u3:u 3=.pointer (some ⟨c,p,none⟩):=u3
   have u4:u 4=.pointer (some ⟨d,q,none⟩):=u4
   obtain ⟨g11,eu6,ga11,hb11,h11⟩:=u6
   have u6:u 6=.pointer (some ⟨g11,0,none⟩):=eu6
   have u8:u 8=.pointer (some ⟨d,q,none⟩):=u8
   have u9:u 9=.pointer (some ⟨d,q,none⟩):=u9
   have u10:u 10=.pointer (some ⟨d,q,none⟩):=u10
   have u11:u 11=.pointer (some ⟨c,p,none⟩):=u11
   obtain ⟨g18,eu13,ga18,hb18,h18⟩:=u13
   have u13:u 13=.pointer (some ⟨g18,0,none⟩):=eu13
   simp only [fillR,List.take_succ_cons,List.take_zero,Act.put,List.setIfInBounds_toArray,List.set_cons_succ,List.set_cons_zero,Nat.zero_add,Nat.reduceAdd,u1,u2,u3,u4,u6,u8,u9,u10,u11,u13]
   clear u1 u2 u3 u4 u6 u8 u9 u10 u11 u13
   have HC:=Lib.hid hC.below
   have H11:=Lib.hid h11
   have H18:=Lib.hid h18
   clear hC h11 h18 ga11 ga18 hb11 hb18
   go_wp2_with fail
   refine (Cmp_any H11.out H18.out).mono ?_
   rintro e w3 ⟨rfl,h1⟩
   rw [cmpQ_of]
   have H1:=Lib.hid (HC.out.trans (h1.mono HC.out.size))
   clear h1
   go_wp2
   go_ret
   exact ⟨rfl,H1.out⟩
theorem rNum_any {w:World} {c p:Nat} {x:Rat} (hx:RatAt w c p x) :
  Calls Tryz.prog 266 #[.pointer (some ⟨c,p,none⟩)] w fun e w'=>∃ g,e=.returned (.pointer (some ⟨g,0,none⟩))∧w.heap.size≤g∧IntAt w' g 0 x.num∧Below w.heap.size w w':=by
 have HX:=Lib.hid hx
 clear hx
 go_enter Tryz.func266,Tryz.ntmps266
 have ha:Below w.heap.size w (w.alloc (.cells #[.bool false,.slice none 0 0] 177)):=(Below.refl _ _).alloc (Nat.le_refl _) _
 go_wp2_with fail
 refine (set_any (IntAt.new w).slot (HX.out.on ha).num).mono ?_
 rintro e w1 ⟨rfl,h1,h2⟩
 have H1:=Lib.hid h1
 have H2:=Lib.hid (ha.trans (h2.below (Nat.le_refl _) ha.size))
 clear h1 h2 ha
 go_wp2
 go_ret
 exact ⟨_,rfl,Nat.le_refl _,H1.out,H2.out⟩
theorem rDenom_any {w:World} {c p:Nat} {x:Rat} (hx:RatAt w c p x) :
  Calls Tryz.prog 268 #[.pointer (some ⟨c,p,none⟩)] w fun e w'=>∃ g,e=.returned (.pointer (some ⟨g,0,none⟩))∧w.heap.size≤g∧IntAt w' g 0 x.den∧Below w.heap.size w w':=by
 have HX:=Lib.hid hx
 clear hx
 go_enter Tryz.func268,Tryz.ntmps268
 have ha:Below w.heap.size w (w.alloc (.cells #[.bool false,.slice none 0 0] 177)):=(Below.refl _ _).alloc (Nat.le_refl _) _
 go_wp2_with fail
 refine (den_any (HX.out.on ha)).mono ?_
 rintro e w1 ⟨g,i,rfl,h1,h2,_⟩
 have hs:=(IntAt.new w).slot.on h2
 have HB:=Lib.hid (ha.trans (h2.mono ha.size))
 have H1:=Lib.hid h1
 clear h1 h2 ha
 go_wp2_with fail
 refine (set_any hs H1.out).mono ?_
 rintro e w2 ⟨rfl,h1,h2⟩
 have H2:=Lib.hid h1
 have H3:=Lib.hid (HB.out.trans (h2.below (Nat.le_refl _) HB.out.size))
 clear h1 h2 hs
 go_wp2
 go_ret
 exact ⟨_,rfl,Nat.le_refl _,H2.out,H3.out⟩
theorem NewRat_any {w:World} {n m:Int} (hn : -9223372036854775808≤n∧n≤9223372036854775807) (hm : -9223372036854775808≤m∧m≤9223372036854775807) (h0:m≠0) :
  Calls Tryz.prog 137 #[.int .i64 n,.int .i64 m] w fun e w'=>∃ g,e=.returned (.pointer (some ⟨g,0,none⟩))∧w.heap.size≤g∧RatAt w' g 0 (Rat.divInt n m)∧Below w.heap.size w w':=by
 have HN:=Lib.hid hn
 have HM:=Lib.hid hm
 have H0:=Lib.hid h0
 have KN:Hid (Okn n):=Okn.small (Nat.lt_of_le_of_lt (show n.natAbs≤9223372036854775808 by omega) (by decide))
 have KM:Hid (Okn m):=Okn.small (Nat.lt_of_le_of_lt (show m.natAbs≤9223372036854775808 by omega) (by decide))
 clear hn hm h0
 go_enter Tryz.func137,Tryz.ntmps137
 have ha:Below w.heap.size w (w.alloc (.cells #[.bool false,.slice none 0 0,.bool false,.slice none 0 0] 179)):=(Below.refl _ _).alloc (Nat.le_refl _) _
 go_wp2_with fail
 refine (NewInt_any HN.out).mono ?_
 rintro e w1 ⟨g1,rfl,_,h1,h2⟩
 have HS:=Lib.hid ((RatAt.new w).slot.on h2)
 have HB1:=Lib.hid (ha.trans (h2.mono ha.size))
 have H1:=Lib.hid h1
 clear h1 h2 ha
 go_wp2_with fail
 refine (NewInt_any HM.out).mono ?_
 rintro e w2 ⟨g2,rfl,_,h1,h2⟩
 have hs:=HS.out.on h2
 have hn2:=H1.out.on h2
 have HB2:=Lib.hid (HB1.out.trans (h2.mono HB1.out.size))
 have H2:=Lib.hid h1
 clear h1 h2 HB1
 go_wp2_with fail
 refine (SetFrac_any hs hn2 H2.out H0.out KN.out KM.out).mono ?_
 rintro e w3 ⟨rfl,h1,h2⟩
 have H3:=Lib.hid h1
 have HB3:=Lib.hid (HB2.out.trans (h2.below (Nat.le_refl _) HB2.out.size))
 clear h1 h2 hs hn2
 go_wp2
 go_ret
 exact ⟨_,rfl,Nat.le_refl _,H3.out,HB3.out⟩
theorem sg_inj {n m:Int} (h:decide (n<0)=decide (m<0)) (k:n.natAbs=m.natAbs):n=m:=by
 have:(n<0)↔(m<0):=decide_eq_decide.1 h
 omega
theorem words_val {w:World} {A:Option Addr} {l c:Nat} {xs ys:List Nat} (h:Words w (.slice A l c) xs) (k:Words w (.slice A l c) ys):xs=ys:=by
 have h1:=h.len.1
 have k1:=k.len.1
 rcases Nat.eq_zero_or_pos l with h0 | h0
 · have e1:xs=[]:=List.eq_nil_of_length_eq_zero (by omega)
   have e2:ys=[]:=List.eq_nil_of_length_eq_zero (by omega)
   rw [e1,e2]
 · obtain ⟨b,o,rfl,h2⟩:=h.open_ h0
   obtain ⟨b',o',e,k2⟩:=k.open_ h0
   cases Option.some.inj e
   refine val_eq_of_same xs ys (by omega) fun i hi=>?_
   have h3:=h2 i (by omega)
   have k3:=k2 i (by omega)
   rw [h3] at k3
   injection k3 with k3
   injection k3 with _ k3
   exact Int.ofNat.inj k3
theorem IntAt.uniq {w:World} {b o:Nat} {n m:Int} (h:IntAt w b o n) (k:IntAt w b o m):n=m:=by
 obtain ⟨A,l,c,h0,h1,h2,_⟩:=h.open_
 obtain ⟨B,l',c',k0,k1,k2,_⟩:=k.open_
 rw [h1] at k1
 cases Option.some.inj k1
 rw [h0] at k0
 have e:=Option.some.inj k0
 injection e with e
 refine sg_inj e ?_
 have:=words_val h2 k2
 rw [← val_dig n.natAbs,this,val_dig]
structure SE (base b o:Nat) (n:Int) (w w':World):Prop where
 zero:∀ g,base≤g→IntAt w g 0 0→IntAt w' g 0 0∨IntAt w' g 0 n
 one:∀ g,base≤g→IntAt w g 0 1→IntAt w' g 0 1
 num:∀ g,base≤g→IntAt w g 0 n→IntAt w' g 0 n
 words:∀ v xs,Words w v xs→Words w' v xs
 stored:IntAt w b o n→IntAt w' b o n
theorem SE.below {base b o:Nat} {n:Int} {w w':World} (h:Below w.heap.size w w'):SE base b o n w w' :=
 ⟨fun _ _ k=>.inl (k.on h),fun _ _ k=>k.on h,fun _ _ k=>k.on h,fun _ _ k=>k.below h,fun k=>k.on h⟩
theorem SE.set {base b o g:Nat} {n:Int} {w w':World} (hb:b<base) (hg:base≤g) (h0:IntAt w g 0 0∨IntAt w g 0 n) (h1:IntAt w' g 0 n) (ht:Touch w w' g 0 2):SE base b o n w w':=by
 have hsl:Slot w g 0 2:=by rcases h0 with h | h<;>exact h.slot
 have far:∀ c m,c≠g→IntAt w c 0 m→IntAt w' c 0 m:=fun c m hc k=>k.touch hsl ht (.inl hc)
 have key:∀ c m,(m=1∨m=n)→IntAt w c 0 m→IntAt w' c 0 m:=by
  intro c m hm k
  by_cases e:c=g
  · subst e
    rcases h0 with h | h
    · have:=k.uniq h
      rcases hm with rfl | rfl
      · cases this
      · exact h1
    · have:=k.uniq h
      rw [this]
      exact h1
  · exact far c m e k
 refine ⟨fun c _ k=>?_,fun c _ k=>key c 1 (.inl rfl) k,fun c _ k=>key c n (.inr rfl) k,fun v xs k=>k.touch hsl ht,fun k=>k.touch hsl ht (.inl (by omega))⟩
 · by_cases e:c=g
   · subst e; exact .inr h1
   · exact .inl (far c 0 e k)
theorem SE.store {base b o:Nat} {n:Int} {w w':World} (hs:Slot w b o 4) (hb:b<base) (ht:Touch w w' b o 2) (hn:IntAt w' b o n):SE base b o n w w' :=
 ⟨fun _ hc k=>.inl (k.touch hs ht (.inl (by omega))),fun _ hc k=>k.touch hs ht (.inl (by omega)),fun _ hc k=>k.touch hs ht (.inl (by omega)),fun _ _ k=>k.touch hs ht,fun _=>hn⟩
theorem intAt_put {w:World} {b o:Nat} {s:Bool} {v:Value} {n:Int} (hs:Slot w b o 2) (hw:Words w v (dig n.natAbs)) (e:decide (n<0)=s) :
  IntAt ((w.setCell ⟨b,o,none⟩ (.bool s)).setCell ⟨b,o+1,none⟩ v) b o n∧Touch w ((w.setCell ⟨b,o,none⟩ (.bool s)).setCell ⟨b,o+1,none⟩ v) b o 2:=by
 have ht:Touch w ((w.setCell ⟨b,o,none⟩ (.bool s)).setCell ⟨b,o+1,none⟩ v) b o 2:=((Touch.refl w b o 2).set_ o (by omega) _).set_ (o+1) (by omega) _
 obtain ⟨cs,t,k1,k2,k3⟩:=id hs
 have hb:((w.setCell ⟨b,o,none⟩ (.bool s)).setCell ⟨b,o+1,none⟩ v).heap[b]?=some (.cells ((cs.setIfInBounds o (.bool s)).setIfInBounds (o+1) v) t (0,0)):=by
  simp [World.setCell,Array.getElem?_modify,k1]
 refine ⟨⟨hs.touch ht,?_,v,?_,hw.touch hs ht⟩,ht⟩
 · rw [cell_of_row _ _ _ _ _ _ hb,Array.getElem?_setIfInBounds_ne (by omega),Array.getElem?_setIfInBounds_self_of_lt (by omega),e]
 · rw [cell_of_row _ _ _ _ _ _ hb,Array.getElem?_setIfInBounds_self_of_lt (by simp; omega)]
theorem Touch.then_ {a b c:World} {g o n:Nat} (h:Touch a b g o n) (hg:g<a.heap.size) (k:Below a.heap.size b c):Touch a c g o n :=
 ⟨k.os.trans h.os,k.tape.trans h.tape,k.output.trans h.output,Nat.le_trans h.size k.size,fun j hj hne=>(k.block j hj).trans (h.block j hj hne),fun cs t fr hc=>by
  obtain ⟨cs1,k1,k2,k3⟩:=h.own cs t fr hc
  exact ⟨cs1,by rw [k.block g hg]; exact k1,k2,k3⟩⟩
set_option maxHeartbeats 1600000 in
set_option maxRecDepth 100000 in
theorem SetInt_any {w:World} {b o c p:Nat} {n:Int} (hz:Slot w b o 4) (hx:IntAt w c p n) (hne:c≠b) :
  Calls Tryz.prog 227 #[.pointer (some ⟨b,o,none⟩),.pointer (some ⟨c,p,none⟩)] w fun e w'=>e=.returned (.pointer (some ⟨b,o,none⟩))∧RatAt w' b o (n:Rat)∧Touch w w' b o 4:=by
 have HX:=Lib.hid hx
 have HZ:=Lib.hid hz
 have HNE:=Lib.hid hne
 obtain ⟨B,hB⟩:∃ B,B=w.heap.size:=⟨_,rfl⟩
 have HB:=Lib.hid hB
 have HBB:Hid (b<B):=by rw [hB]; exact hz.lt
 clear hx hz hne hB
 go_enter Tryz.func227,Tryz.ntmps227
 go_wp2
 refine wp_region_acts 13 (fun w'=>Touch w w' b o 4) (fun w w'=>SE B b o n w w') (fun i w v=>match i with
   | 0=>v=.pointer (some ⟨b,o,none⟩)
   | 1=>v=.pointer (some ⟨b,o,none⟩)
   | 2=>∃ g,v=.pointer (some ⟨g,0,none⟩)∧B≤g∧(IntAt w g 0 0∨IntAt w g 0 n)
   | 3=>v=.pointer (some ⟨c,p,none⟩)
   | 4=>∃ g,v=.pointer (some ⟨g,0,none⟩)∧B≤g∧IntAt w g 0 n
   | 5=>∃ g,v=.pointer (some ⟨g,0,none⟩)∧B≤g∧IntAt w g 0 n
   | 6=>∃ A l k,v=.agg #[.bool (decide (n<0)),.slice A l k]∧Words w (.slice A l k) (dig n.natAbs)
   | 7=>∃ g,v=.pointer (some ⟨g,0,none⟩)∧B≤g∧IntAt w g 0 1
   | 8=>∃ g,v=.pointer (some ⟨g,0,none⟩)∧B≤g∧IntAt w g 0 1
   | 9=>∃ A l k,v=.agg #[.bool (decide ((1:Int)<0)),.slice A l k]∧Words w (.slice A l k) (dig (1:Int).natAbs)
   | 10=>v=.pointer (some ⟨b,o,none⟩)
   | 11=>v=.pointer (some ⟨b,o,none⟩)
   | _=>IntAt w b o n) (by kernel_rfl) (by kernel_rfl) (by kernel_rfl) ((Touch.refl _ _ _ _).drew) (fun _ _=>SE.below (Below.refl _ _)) ?_ ⟨?_,?_,?_,?_,?_,?_,?_,?_,?_,?_,?_,?_,?_,trivial⟩ ?_
 · intro i w1 w2 v hC hC2 hE hV
   match i with
   | 0=>exact hV
   | 1=>exact hV
   | 2=>obtain ⟨g,e,hb,h⟩:=hV; exact ⟨g,e,hb,h.elim (fun h=>hE.zero g hb h) (fun h=>.inr (hE.num g hb h))⟩
   | 3=>exact hV
   | 4=>obtain ⟨g,e,hb,h⟩:=hV; exact ⟨g,e,hb,hE.num g hb h⟩
   | 5=>obtain ⟨g,e,hb,h⟩:=hV; exact ⟨g,e,hb,hE.num g hb h⟩
   | 6=>obtain ⟨A,l,k,e,h⟩:=hV; exact ⟨A,l,k,e,hE.words _ _ h⟩
   | 7=>obtain ⟨g,e,hb,h⟩:=hV; exact ⟨g,e,hb,hE.one g hb h⟩
   | 8=>obtain ⟨g,e,hb,h⟩:=hV; exact ⟨g,e,hb,hE.one g hb h⟩
   | 9=>obtain ⟨A,l,k,e,h⟩:=hV; exact ⟨A,l,k,e,hE.words _ _ h⟩
   | 10=>exact hV
   | 11=>exact hV
   | _+12=>exact hE.stored hV
 · intro a' w' hag hC hd K hK
   have e0:a'.tmps.getD 0 undef=.pointer (some ⟨b,o,none⟩):=hag 0 rfl
   go_step
   exact hK _ _ hC (SE.below (Below.refl _ _)) rfl
 · intro a' w' hag hC hd K hK
   have e0:a'.tmps.getD 0 undef=.pointer (some ⟨b,o,none⟩):=hag 0 rfl
   go_step
   exact hK _ _ hC (SE.below (Below.refl _ _)) rfl
 · intro a' w' hag hC hd K hK
   have hb:Below w'.heap.size w' (w'.alloc (.cells #[.bool false,.slice none 0 0] 177)):=(Below.refl _ _).alloc (Nat.le_refl _) _
   have HK:=Lib.hid (hK (.pointer (some ⟨w'.heap.size,0,none⟩)) _ (hC.then_below hb) (SE.below hb) ⟨_,rfl,by rw [HB.out]; exact hC.size,.inl (IntAt.new w')⟩)
   clear hb hK hC
   go_step
   exact HK.out
 · intro a' w' hag hC hd K hK
   have e1:a'.tmps.getD 1 undef=.pointer (some ⟨c,p,none⟩):=hag 1 rfl
   go_step
   exact hK _ _ hC (SE.below (Below.refl _ _)) rfl
 · intro a' w' hag hC hd K hK
   obtain ⟨g7,e7,hb7,h7⟩:=hd.1
   have e7:a'.tmps.getD 7 undef=.pointer (some ⟨g7,0,none⟩):=e7
   have e8:a'.tmps.getD 8 undef=.pointer (some ⟨c,p,none⟩):=hd.2.1
   have hs7:Slot w' g7 0 2:=by rcases h7 with h | h<;>exact h.slot
   have hx':=HX.out.touch HZ.out hC (.inl HNE.out)
   go_step
   refine (set_any hs7 hx').mono ?_
   rintro e w2 ⟨rfl,h1,h2⟩
   exact hK _ _ (hC.then_ HZ.out.lt (h2.below (by rw [← HB.out]; exact hb7) hC.size)) (SE.set HBB.out hb7 h7 h1 h2) ⟨_,rfl,hb7,h1⟩
 · intro a' w' hag hC hd K hK
   obtain ⟨g9,e9,hb9,h9⟩:=hd.1
   have e9:a'.tmps.getD 9 undef=.pointer (some ⟨g9,0,none⟩):=e9
   go_step
   exact hK _ _ hC (SE.below (Below.refl _ _)) ⟨g9,rfl,hb9,h9⟩
 · intro a' w' hag hC hd K hK
   obtain ⟨g9,e10,hb9,h9⟩:=hd.1
   have e10:a'.tmps.getD 10 undef=.pointer (some ⟨g9,0,none⟩):=e10
   obtain ⟨A,l,k,hc0,hc1,hcw,_⟩:=h9.open_
   rw [Nat.zero_add] at hc1
   generalize hs1:decide (n<0)=s1 at hc0
   have HS1:=Lib.hid hs1
   clear hs1
   have HK:=Lib.hid (hK (.agg #[.bool s1,.slice A l k]) _ hC (SE.below (Below.refl _ _)) ⟨A,l,k,by rw [HS1.out],hcw⟩)
   clear hK hC hcw
   go_step
   exact HK.out
 · intro a' w' hag hC hd K hK
   go_step
   refine (NewInt_any (by omega)).mono ?_
   rintro e w2 ⟨g,rfl,hg,h1,h2⟩
   exact hK _ _ (hC.then_below h2) (SE.below h2) ⟨_,rfl,by rw [HB.out]; exact Nat.le_trans hC.size hg,h1⟩
 · intro a' w' hag hC hd K hK
   obtain ⟨g12,e12,hb12,h12⟩:=hd.1
   have e12:a'.tmps.getD 12 undef=.pointer (some ⟨g12,0,none⟩):=e12
   go_step
   exact hK _ _ hC (SE.below (Below.refl _ _)) ⟨g12,rfl,hb12,h12⟩
 · intro a' w' hag hC hd K hK
   obtain ⟨g12,e13,hb12,h12⟩:=hd.1
   have e13:a'.tmps.getD 13 undef=.pointer (some ⟨g12,0,none⟩):=e13
   obtain ⟨A,l,k,hc0,hc1,hcw,_⟩:=h12.open_
   rw [Nat.zero_add] at hc1
   generalize hs1:decide ((1:Int)<0)=s1 at hc0
   have HS1:=Lib.hid hs1
   clear hs1
   have HK:=Lib.hid (hK (.agg #[.bool s1,.slice A l k]) _ hC (SE.below (Below.refl _ _)) ⟨A,l,k,by rw [HS1.out],hcw⟩)
   clear hK hC hcw
   go_step
   exact HK.out
 · intro a' w' hag hC hd K hK
   have e5:a'.tmps.getD 5 undef=.pointer (some ⟨b,o,none⟩):=hd.1
   go_step
   exact hK _ _ hC (SE.below (Below.refl _ _)) rfl
 · intro a' w' hag hC hd K hK
   have e15:a'.tmps.getD 15 undef=.pointer (some ⟨b,o,none⟩):=hd.1
   go_step
   exact hK _ _ hC (SE.below (Below.refl _ _)) rfl
 · intro a' w' hag hC hd K hK
   have e16:a'.tmps.getD 16 undef=.pointer (some ⟨b,o,none⟩):=hd.1
   obtain ⟨A11,l11,k11,e11,h11⟩:=hd.2.1
   have e11:a'.tmps.getD 11 undef=.agg #[.bool (decide (n<0)),.slice A11 l11 k11]:=e11
   have hs':=HZ.out.touch hC
   obtain ⟨v0,hv0⟩:=hs'.cell o (by omega)
   obtain ⟨v1,hv1⟩:=hs'.cell (o+1) (by omega)
   have hf:∀ i,w'.frozen? ⟨b,i,none⟩=false:=fun i=>hs'.frozen i
   generalize hs1:decide (n<0)=s1 at e11
   obtain ⟨k1,k2⟩:=intAt_put (show Slot w' b o 2 from hs'.part (by omega)) h11 hs1
   have HK:=Lib.hid (hK undef _ (hC.trans (k2.mono (Nat.le_refl _) (by omega))) (SE.store hs' HBB.out k2 k1) k1)
   clear hK hC k1 k2 hs1
   go_step
   exact HK.out
 · intro u w' hC hall
   obtain ⟨u0,u1,u2,u3,u4,u5,u6,u7,u8,u9,u10,u11,u12,_⟩:=hall
   have u0:u 0=.pointer (some ⟨b,o,none⟩):=u0
   have u1:u 1=.pointer (some ⟨b,o,none⟩):=u1
   have u3:u 3=.pointer (some ⟨c,p,none⟩):=u3
   obtain ⟨A14,l14,k14,eu9,h14⟩:=u9
   have u9:u 9=.agg #[.bool (decide ((1:Int)<0)),.slice A14 l14 k14]:=eu9
   have u10:u 10=.pointer (some ⟨b,o,none⟩):=u10
   have u11:u 11=.pointer (some ⟨b,o,none⟩):=u11
   simp only [fillR,List.take_succ_cons,List.take_zero,Act.put,List.setIfInBounds_toArray,List.set_cons_succ,List.set_cons_zero,Nat.zero_add,Nat.reduceAdd,u0,u1,u3,u9,u10,u11]
   clear u0 u1 u3 u9 u10 u11
   have hst:IntAt w' b o n:=u12
   have hs':=HZ.out.touch hC
   obtain ⟨v0,hv0⟩:=hs'.cell (o+2) (by omega)
   obtain ⟨v1,hv1⟩:=hs'.cell (o+2+1) (by omega)
   have hf:∀ i,w'.frozen? ⟨b,i,none⟩=false:=fun i=>hs'.frozen i
   generalize hs1:decide ((1:Int)<0)=s1
   obtain ⟨k1,k2⟩:=intAt_put (show Slot w' b (o+2) 2 from hs'.part (by omega)) h14 hs1
   have hn2:=hst.touch (hs'.part (show o+2+2≤o+4 by omega)) k2 (.inr (.inl (Nat.le_refl _)))
   have HT:=Lib.hid (hC.trans (k2.mono (by omega) (by omega)))
   have HR:Hid (RatAt ((w'.setCell ⟨b,o+2,none⟩ (.bool s1)).setCell ⟨b,o+2+1,none⟩ (.slice A14 l14 k14)) b o (n:Rat)):=by
    refine ⟨hs'.touch k2,?_,1,k1,.inl ?_⟩
    · rw [Rat.num_intCast]; exact hn2
    · rw [Rat.den_intCast]; rfl
   clear hC k1 k2 hs1 hst hn2 h14 hs' u12
   go_wp2
   go_ret
   exact ⟨rfl,HR.out,HT.out⟩
set_option maxHeartbeats 1600000 in
set_option maxRecDepth 100000 in
theorem rat_any {w0:World} (b c:Bool) (s t:ByteArray) (hs:s.size≤4294967296) (ht:t.size≤4294967296) (h0:numOf c t≠0) (k1:Okn (numOf b s)) (k2:Okn (numOf c t)) :
  Calls Tryz.prog 225 #[.agg #[.bool b,.string s,.bool c,.string t]] w0 fun e w'=>∃ g,e=.returned (.pointer (some ⟨g,0,none⟩))∧w0.heap.size≤g∧RatAt w' g 0 (Rat.divInt (numOf b s) (numOf c t))∧Below w0.heap.size w0 w':=by
 have HS:=Lib.hid hs
 have HT:=Lib.hid ht
 have H0:=Lib.hid h0
 have K1:=Lib.hid k1
 have K2:=Lib.hid k2
 obtain ⟨B,hB⟩:∃ B,B=w0.heap.size:=⟨_,rfl⟩
 have HB:=Lib.hid hB
 have HW:Hid (Below B w0 (w0.alloc (.cells #[.bool b,.string s,.bool c,.string t] 25))):=by rw [hB]; exact below_new _ _
 have HBX:=Lib.hid (BoxAt.new w0 #[.bool b,.string s,.bool c,.string t] 25)
 clear hs ht h0 k1 k2 hB
 go_enter Tryz.func225,Tryz.ntmps225
 go_wp2
 refine wp_region_acts 7 (fun w'=>Below B w0 w'∧BoxAt w' w0.heap.size #[.bool b,.string s,.bool c,.string t] 25) (fun w w'=>Below w.heap.size w w') (fun i w v=>match i with
   | 0=>∃ g,v=.pointer (some ⟨g,0,none⟩)∧B≤g∧Slot w g 0 4
   | 1=>v=.pointer (some ⟨w0.heap.size,0,none⟩)
   | 2=>v=.agg #[.bool b,.string s]
   | 3=>∃ g,v=.pointer (some ⟨g,0,none⟩)∧B≤g∧IntAt w g 0 (numOf b s)
   | 4=>v=.pointer (some ⟨w0.heap.size,2,none⟩)
   | 5=>v=.agg #[.bool c,.string t]
   | _=>∃ g,v=.pointer (some ⟨g,0,none⟩)∧B≤g∧IntAt w g 0 (numOf c t)) (by kernel_rfl) (by kernel_rfl) (by kernel_rfl) ⟨HW.out.drew,HBX.out⟩ (fun _ _=>(Below.refl _ _)) ?_ ⟨?_,?_,?_,?_,?_,?_,?_,trivial⟩ ?_
 · intro i w1 w2 v hC hC2 hE hV
   match i with
   | 0=>obtain ⟨g,e,hb,h⟩:=hV; exact ⟨g,e,hb,h.on hE⟩
   | 1=>exact hV
   | 2=>exact hV
   | 3=>obtain ⟨g,e,hb,h⟩:=hV; exact ⟨g,e,hb,h.on hE⟩
   | 4=>exact hV
   | 5=>exact hV
   | _+6=>obtain ⟨g,e,hb,h⟩:=hV; exact ⟨g,e,hb,h.on hE⟩
 · intro a' w' hag hC hd K hK
   have hb:=below_new w' (.cells #[.bool false,.slice none 0 0,.bool false,.slice none 0 0] 179)
   have HK:=Lib.hid (hK (.pointer (some ⟨w'.heap.size,0,none⟩)) _ ⟨hC.1.trans (hb.mono (by have:=hC.1.size; have:=HB.out; omega)),hC.2.on hb⟩ hb ⟨_,rfl,by have:=hC.1.size; have:=HB.out; omega,(RatAt.new w').slot⟩)
   clear hb hK hC
   go_step
   exact HK.out
 · intro a' w' hag hC hd K hK
   have e1:a'.tmps.getD 1 undef=.pointer (some ⟨w0.heap.size,0,none⟩):=hag 1 rfl
   go_step
   exact hK _ _ hC ((Below.refl _ _)) rfl
 · intro a' w' hag hC hd K hK
   have e4:a'.tmps.getD 4 undef=.pointer (some ⟨w0.heap.size,0,none⟩):=hd.1
   have hc0:=hC.2.cell 0 (.bool b) rfl
   have hc1:=hC.2.cell 1 (.string s) rfl
   have HK:=Lib.hid (hK (.agg #[.bool b,.string s]) _ hC (Below.refl _ _) rfl)
   clear hK hC
   go_step
   exact HK.out
 · intro a' w' hag hC hd K hK
   have e5:a'.tmps.getD 5 undef=.agg #[.bool b,.string s]:=hd.1
   go_step
   refine (number_any b s HS.out).mono ?_
   rintro e w2 ⟨g,rfl,hg,h1,h2⟩
   have hsz:B≤w'.heap.size:=by have:=hC.1.size; have:=HB.out; omega
   exact hK _ _ ⟨hC.1.trans (h2.mono hsz),hC.2.on h2⟩ h2 ⟨_,rfl,Nat.le_trans hsz hg,h1⟩
 · intro a' w' hag hC hd K hK
   have e1:a'.tmps.getD 1 undef=.pointer (some ⟨w0.heap.size,0,none⟩):=hag 1 rfl
   go_step
   exact hK _ _ hC ((Below.refl _ _)) rfl
 · intro a' w' hag hC hd K hK
   have e7:a'.tmps.getD 7 undef=.pointer (some ⟨w0.heap.size,2,none⟩):=hd.1
   have hc0:=hC.2.cell 2 (.bool c) rfl
   have hc1:=hC.2.cell 3 (.string t) rfl
   have HK:=Lib.hid (hK (.agg #[.bool c,.string t]) _ hC (Below.refl _ _) rfl)
   clear hK hC
   go_step
   exact HK.out
 · intro a' w' hag hC hd K hK
   have e8:a'.tmps.getD 8 undef=.agg #[.bool c,.string t]:=hd.1
   go_step
   refine (number_any c t HT.out).mono ?_
   rintro e w2 ⟨g,rfl,hg,h1,h2⟩
   have hsz:B≤w'.heap.size:=by have:=hC.1.size; have:=HB.out; omega
   exact hK _ _ ⟨hC.1.trans (h2.mono hsz),hC.2.on h2⟩ h2 ⟨_,rfl,Nat.le_trans hsz hg,h1⟩
 · intro u w' hC hall
   obtain ⟨u0,u1,u2,u3,u4,u5,u6,_⟩:=hall
   obtain ⟨g3,eu0,hb3,h3⟩:=u0
   have u0:u 0=.pointer (some ⟨g3,0,none⟩):=eu0
   have u1:u 1=.pointer (some ⟨w0.heap.size,0,none⟩):=u1
   have u2:u 2=.agg #[.bool b,.string s]:=u2
   obtain ⟨g6,eu3,hb6,h6⟩:=u3
   have u3:u 3=.pointer (some ⟨g6,0,none⟩):=eu3
   have u4:u 4=.pointer (some ⟨w0.heap.size,2,none⟩):=u4
   have u5:u 5=.agg #[.bool c,.string t]:=u5
   obtain ⟨g9,eu6,hb9,h9⟩:=u6
   have u6:u 6=.pointer (some ⟨g9,0,none⟩):=eu6
   simp only [fillR,List.take_succ_cons,List.take_zero,Act.put,List.setIfInBounds_toArray,List.set_cons_succ,List.set_cons_zero,Nat.zero_add,Nat.reduceAdd,u0,u1,u2,u3,u4,u5,u6]
   clear u0 u1 u2 u3 u4 u5 u6
   have HC:=Lib.hid hC.1
   have H3:=Lib.hid h3
   have H6:=Lib.hid h6
   have H9:=Lib.hid h9
   clear hC h3 h6 h9
   go_wp2_with fail
   refine (SetFrac_any H3.out H6.out H9.out H0.out K1.out K2.out).mono ?_
   rintro e w3 ⟨rfl,h1,h2⟩
   have H1:=Lib.hid h1
   have HE:=Lib.hid (HC.out.trans (h2.below hb3 (by have:=HC.out.size; have:=HB.out; omega)))
   clear h1 h2
   go_wp2
   go_ret
   exact ⟨_,rfl,by rw [← HB.out]; exact hb3,H1.out,by rw [← HB.out]; exact HE.out⟩
theorem wholeV_nat (d:Nat):wholeV (d:Int)=.agg #[.bool false,.string (mag d)]:=by
 unfold wholeV
 rw [show decide ((d:Int)<0)=false by simp,Int.natAbs_natCast]
theorem back_agg {w:World} {b o:Nat} {n:Int} (hx:IntAt w b o n) (hn:Okn n) :
  Calls Tryz.prog 106 #[.pointer (some ⟨b,o,none⟩)] w fun e w'=>∃ p s,e=.returned (.agg #[.bool p,.string s])∧Hid (p=decide (n<0))∧Hid (s=mag n.natAbs)∧Below w.heap.size w w' :=
 (back_any hx hn).mono fun e w' h=>⟨_,_,h.1,rfl,rfl,h.2⟩
set_option maxRecDepth 100000 in
theorem told_any {w:World} {b o:Nat} {q:Rat} (hx:RatAt w b o q) (hq:OkR q) :
  Calls Tryz.prog 234 #[.pointer (some ⟨b,o,none⟩)] w fun e w'=>∃ p s t,e=.returned (.agg #[.bool p,.string s,.bool false,.string t])∧Hid (p=decide (q.num<0))∧Hid (s=mag q.num.natAbs)∧Hid (t=mag q.den)∧Below w.heap.size w w':=by
 have HB:=Lib.hid (below_new w (.cells #[.bool false,.string ⟨#[]⟩,.bool false,.string ⟨#[]⟩] 25))
 have HC:=Lib.hid (BoxAt.new w #[.bool false,.string ⟨#[]⟩,.bool false,.string ⟨#[]⟩] 25)
 have HX:=Lib.hid (hx.on HB.out)
 have HQ:=Lib.hid hq
 clear hx hq
 go_enter Tryz.func234,Tryz.ntmps234
 go_wp2_with fail
 refine (rNum_any HX.out).mono ?_
 rintro e w1 ⟨g1,rfl,hg1,h1,hb1⟩
 have HB1:=Lib.hid hb1
 have H1:=Lib.hid h1
 clear h1 hb1
 go_wp2_with fail
 refine (back_agg H1.out HQ.out.num).mono ?_
 rintro e w2 ⟨p1,s1,rfl,hp1,hs1,hb2⟩
 have HB2:=Lib.hid (HB1.out.trans (hb2.mono HB1.out.size))
 clear hb2
 go_wp2_with fail
 refine (rDenom_any (HX.out.on HB2.out)).mono ?_
 rintro e w3 ⟨g3,rfl,hg3,h3,hb3⟩
 have HB3:=Lib.hid (HB2.out.trans (hb3.mono HB2.out.size))
 have H3:=Lib.hid h3
 clear h3 hb3
 go_wp2_with fail
 refine (back_agg H3.out HQ.out.den).mono ?_
 rintro e w4 ⟨p2,s2,rfl,hp2,hs2,hb4⟩
 have HB4:=Lib.hid (HB3.out.trans (hb4.mono HB3.out.size))
 clear hb4
 have hc:=fun i v h=>(HC.out.on HB4.out).cell i v h
 have hc0:=hc 0 _ rfl
 have hc1:=hc 1 _ rfl
 have hc2:=hc 2 _ rfl
 have hc3:=hc 3 _ rfl
 have hf:=(HC.out.on HB4.out).frozen
 have HK:=Lib.hid (((((HC.out.on HB4.out).set 0 (.bool p1)).set 1 (.string s1)).set 2 (.bool p2)).set 3 (.string s2))
 have HW:=Lib.hid (HB.out.trans (HB4.out.mono HB.out.size))
 clear hc
 go_wp2
 have h0:=HK.out.cell 0 (.bool p1) rfl
 have h1:=HK.out.cell 1 (.string s1) rfl
 have h2:=HK.out.cell 2 (.bool p2) rfl
 have h3:=HK.out.cell 3 (.string s2) rfl
 have hp:p2=false:=by rw [hp2.out]; simp
 subst hp
 exact bodyPost_ret (v:=.agg #[.bool p1,.string s1,.bool false,.string s2]) (by simp [results,Tryz.results234,go_sem,h0,h1,h2,h3]) rfl ⟨_,_,_,rfl,hp1,hs1,by rw [Hid,hs2.out,Int.natAbs_natCast],(((HW.out.setCell (Nat.le_refl _) _).setCell (Nat.le_refl _) _).setCell (Nat.le_refl _) _).setCell (Nat.le_refl _) _⟩
theorem shortF_any {w:World} (b:Bool) (s:ByteArray) (p:Bool) (hp:decide (s.size≤1024)=p) :
  Calls Tryz.prog 232 #[.agg #[.bool b,.string s]] w fun e w'=>e=.returned (.bool p)∧Below w.heap.size w w':=by
 have HB:=Lib.hid (below_new w (.cells #[.bool b,.string s] 23))
 have hq:decide ((s.size:Int)≤1024)=p:=by
  rw [← hp]
  exact decide_eq_decide.2 (by omega)
 clear hp
 go_enter Tryz.func232,Tryz.ntmps232
 go_wp2
 go_ret
 refine ⟨?_,HB.out⟩
 rw [← hq]
 rfl
def frac0:Value:=.agg #[.bool false,.string ⟨#[]⟩,.bool false,.string ⟨#[]⟩]
def Fit (q:Rat):Prop:=(mag q.num.natAbs).size≤1024∧(mag q.den).size≤1024
def Ans (q:Rat) (v:Value) (k:Int):Prop:=Fit q∧v=fracV q∧k=0∨¬ Fit q∧v=frac0∧k=4
set_option maxRecDepth 100000 in
theorem answer_any {w:World} {b o:Nat} {q:Rat} (hx:RatAt w b o q) (hq:OkR q) :
  Calls Tryz.prog 222 #[.pointer (some ⟨b,o,none⟩)] w fun e w'=>∃ v k,e=.returned (.tuple #[v,.int .i64 k])∧Ans q v k∧Below w.heap.size w w':=by
 have HB:=Lib.hid (below_new w (.cells #[.bool false,.string ⟨#[]⟩,.bool false,.string ⟨#[]⟩] 25))
 have HC:=Lib.hid (BoxAt.new w #[.bool false,.string ⟨#[]⟩,.bool false,.string ⟨#[]⟩] 25)
 have HX:=Lib.hid (hx.on HB.out)
 have HQ:=Lib.hid hq
 clear hx hq
 go_enter Tryz.func222,Tryz.ntmps222
 go_wp2_with fail
 refine (told_any HX.out HQ.out).mono ?_
 rintro e w1 ⟨p,s,t,rfl,hp,hs,ht,hb1⟩
 have HB1:=Lib.hid hb1
 have hsz:=hb1.size
 rw [size_alloc] at hsz
 have HC1:=Lib.hid (HC.out.on hb1)
 clear hb1
 have HBW:=Lib.hid (below_new w1 (.cells #[.bool p,.string s,.bool false,.string t] 25))
 have HX1:=Lib.hid (BoxAt.new w1 #[.bool p,.string s,.bool false,.string t] 25)
 have HCW:=Lib.hid (HC1.out.on HBW.out)
 have HWW:Hid (Below w.heap.size w (w1.alloc (.cells #[.bool p,.string s,.bool false,.string t] 25))):=(HB.out.trans (HB1.out.mono (by simp))).trans (HBW.out.mono (by omega))
 by_cases h1:s.size≤1024
 · go_wp2_with fail
   refine (shortF_any p s true (by simpa using h1)).mono ?_
   rintro e w2 ⟨rfl,hb2⟩
   have HX2:=Lib.hid (HX1.out.on hb2)
   have HC2:=Lib.hid (HCW.out.on hb2)
   have HW2:=Lib.hid (HWW.out.trans (hb2.mono HWW.out.size))
   have hc2:=HX2.out.cell 2 (.bool false) rfl
   have hc3:=HX2.out.cell 3 (.string t) rfl
   clear hb2
   obtain ⟨r,hr⟩:∃ r,r=decide (t.size≤1024):=⟨_,rfl⟩
   have HR:=Lib.hid hr
   go_wp2_with fail
   refine (shortF_any false t r hr.symm).mono ?_
   rintro e w3 ⟨rfl,hb3⟩
   have HX3:=Lib.hid (HX2.out.on hb3)
   have HC3:=Lib.hid (HC2.out.on hb3)
   have HW3:=Lib.hid (HW2.out.trans (hb3.mono HW2.out.size))
   have hx0:=HX3.out.cell 0 (.bool p) rfl
   have hx1:=HX3.out.cell 1 (.string s) rfl
   have hx2:=HX3.out.cell 2 (.bool false) rfl
   have hx3:=HX3.out.cell 3 (.string t) rfl
   have hc0:=HC3.out.cell 0 _ rfl
   have hc1:=HC3.out.cell 1 _ rfl
   have hc2':=HC3.out.cell 2 _ rfl
   have hc3':=HC3.out.cell 3 _ rfl
   have hf:=HC3.out.frozen
   clear hb3 hr hc2 hc3
   cases r
   · have hfit:¬ Fit q:=fun h=>by have:=HR.out; rw [ht.out] at this; exact of_decide_eq_false this.symm h.2
     have HF:=Lib.hid hfit
     have HK:=Lib.hid ((((HC3.out.set 0 (.bool false)).set 1 (.string ⟨#[]⟩)).set 2 (.bool false)).set 3 (.string ⟨#[]⟩))
     clear hfit
     go_wp2
     have k0:=HK.out.cell 0 _ rfl
     have k1:=HK.out.cell 1 _ rfl
     have k2:=HK.out.cell 2 _ rfl
     have k3:=HK.out.cell 3 _ rfl
     exact bodyPost_ret (v:=.tuple #[frac0,.int .i64 4]) (by simp [results,Tryz.results222,go_sem,k0,k1,k2,k3,frac0]) rfl ⟨_,_,rfl,.inr ⟨HF.out,rfl,rfl⟩,(((HW3.out.setCell (Nat.le_refl _) _).setCell (Nat.le_refl _) _).setCell (Nat.le_refl _) _).setCell (Nat.le_refl _) _⟩
   · have hfit:Fit q:=⟨by rw [← hs.out]; exact h1,by rw [← ht.out]; exact of_decide_eq_true HR.out.symm⟩
     have HF:=Lib.hid hfit
     have HK:=Lib.hid ((((HC3.out.set 0 (.bool p)).set 1 (.string s)).set 2 (.bool false)).set 3 (.string t))
     clear hfit
     go_wp2
     have k0:=HK.out.cell 0 _ rfl
     have k1:=HK.out.cell 1 _ rfl
     have k2:=HK.out.cell 2 _ rfl
     have k3:=HK.out.cell 3 _ rfl
     exact bodyPost_ret (v:=.tuple #[.agg #[.bool p,.string s,.bool false,.string t],.int .i64 0]) (by simp [results,Tryz.results222,go_sem,k0,k1,k2,k3]) rfl ⟨_,_,rfl,.inl ⟨HF.out,by rw [hp.out,hs.out,ht.out]; rfl,rfl⟩,(((HW3.out.setCell (Nat.le_refl _) _).setCell (Nat.le_refl _) _).setCell (Nat.le_refl _) _).setCell (Nat.le_refl _) _⟩
 · go_wp2_with fail
   refine (shortF_any p s false (by simpa using h1)).mono ?_
   rintro e w2 ⟨rfl,hb2⟩
   have HC3:=Lib.hid (HCW.out.on hb2)
   have HW3:=Lib.hid (HWW.out.trans (hb2.mono HWW.out.size))
   have hc0:=HC3.out.cell 0 _ rfl
   have hc1:=HC3.out.cell 1 _ rfl
   have hc2':=HC3.out.cell 2 _ rfl
   have hc3':=HC3.out.cell 3 _ rfl
   have hf:=HC3.out.frozen
   have HF:Hid (¬ Fit q):=fun h=>h1 (by rw [hs.out]; exact h.1)
   have HK:=Lib.hid ((((HC3.out.set 0 (.bool false)).set 1 (.string ⟨#[]⟩)).set 2 (.bool false)).set 3 (.string ⟨#[]⟩))
   clear hb2
   go_wp2
   have k0:=HK.out.cell 0 _ rfl
   have k1:=HK.out.cell 1 _ rfl
   have k2:=HK.out.cell 2 _ rfl
   have k3:=HK.out.cell 3 _ rfl
   exact bodyPost_ret (v:=.tuple #[frac0,.int .i64 4]) (by simp [results,Tryz.results222,go_sem,k0,k1,k2,k3,frac0]) rfl ⟨_,_,rfl,.inr ⟨HF.out,rfl,rfl⟩,(((HW3.out.setCell (Nat.le_refl _) _).setCell (Nat.le_refl _) _).setCell (Nat.le_refl _) _).setCell (Nat.le_refl _) _⟩
theorem wl_size {n:Nat} {k:Nat} (h:(mag n).size≤k):(dig n).length≤(k+3)/4:=by
 refine dig_len_le _ _ ?_
 rw [mag_size_le,p256] at h
 rw [p32]
 exact Nat.lt_of_lt_of_le h (Nat.pow_le_pow_right (by decide) (by omega))
theorem okn_size {n:Int} (h:(mag n.natAbs).size≤16384):Okn n:=by
 have:=wl_size h
 unfold Okn
 omega
theorem mag_mono {a b k:Nat} (h:a≤b) (hk:(mag b).size≤k):(mag a).size≤k:=by
 rw [mag_size_le] at *
 omega
theorem num_le (n d:Int) (hd:d≠0):(Rat.divInt n d).num.natAbs≤n.natAbs:=by
 rw [Rat.num_divInt]
 refine Nat.le_trans (Int.natAbs_ediv_le_natAbs _ _) ?_
 rw [Int.natAbs_mul]
 have h:d.sign.natAbs≤1:=by
  rcases Int.lt_trichotomy d 0 with h | h | h
  · rw [Int.sign_eq_neg_one_of_neg h]; decide
  · exact absurd h hd
  · rw [Int.sign_eq_one_of_pos h]; decide
 calc d.sign.natAbs*n.natAbs≤1*n.natAbs:=Nat.mul_le_mul_right _ h
  _=n.natAbs:=Nat.one_mul _
theorem den_le (n d:Int) (hd:d≠0):(Rat.divInt n d).den≤d.natAbs:=by
 rw [Rat.den_divInt,if_neg hd]
 exact Nat.div_le_self _ _
theorem okR_divInt {n d:Int} (hd:d≠0) (h1:(mag n.natAbs).size≤16384) (h2:(mag d.natAbs).size≤16384):OkR (Rat.divInt n d):=by
 have k1:=wl_size (mag_mono (num_le n d hd) h1)
 have k2:=wl_size (mag_mono (den_le n d hd) h2)
 refine ⟨?_,?_⟩
 · show (dig _).length≤_
   omega
 · show (dig (((Rat.divInt n d).den:Int)).natAbs).length≤_
   rw [Int.natAbs_natCast]
   omega
theorem Fit.okR {q:Rat} (h:Fit q):OkR q:=by
 have k1:=wl_size h.1
 have k2:=wl_size h.2
 refine ⟨?_,?_⟩
 · show (dig _).length≤_
   omega
 · show (dig ((q.den:Int)).natAbs).length≤_
   rw [Int.natAbs_natCast]
   omega
def IsFrac (v:Value):Prop:=∃ q,Fit q∧v=fracV q
theorem agg4 {b c b' c':Bool} {s t s' t':ByteArray} (h:(Value.agg #[.bool b,.string s,.bool c,.string t])=.agg #[.bool b',.string s',.bool c',.string t']):b=b'∧s=s'∧c=c'∧t=t':=by
 injection h with h
 injection h with h
 injection h with h1 h
 injection h with h2 h
 injection h with h3 h
 injection h with h4 _
 injection h1 with h1
 injection h2 with h2
 injection h3 with h3
 injection h4 with h4
 exact ⟨h1,h2,h3,h4⟩
theorem isFrac_parts {b c:Bool} {s t:ByteArray} (h:IsFrac (.agg #[.bool b,.string s,.bool c,.string t])) :
  WholeOk b s∧WholeOk c t∧s.size≤1024∧t.size≤1024∧0<(numOf c t)∧(Value.agg #[.bool b,.string s,.bool c,.string t])=fracV (Rat.divInt (numOf b s) (numOf c t)):=by
 obtain ⟨q,hf,hv⟩:=h
 obtain ⟨rfl,rfl,rfl,rfl⟩:=agg4 hv
 have h1:=ok_wholeV q.num (Nat.le_trans hf.1 (by decide))
 have h2:=ok_wholeV (q.den:Int) (by rw [Int.natAbs_natCast]; exact Nat.le_trans hf.2 (by decide))
 have e:decide ((q.den:Int)<0)=false:=by simp
 rw [e,Int.natAbs_natCast] at h2
 have n1:=numOf_mag q.num
 have n2:=numOf_mag (q.den:Int)
 rw [e,Int.natAbs_natCast] at n2
 refine ⟨h1,h2,hf.1,hf.2,?_,?_⟩
 · rw [n2]; have:=q.den_pos; omega
 · rw [n1,n2,Rat.num_divInt_den]
   rfl
theorem isFrac_of {b c:Bool} {s t:ByteArray} (h1:s.size≤1024) (h2:t.size≤1024) {q:Rat} (h:(Value.agg #[.bool b,.string s,.bool c,.string t])=fracV q):IsFrac (.agg #[.bool b,.string s,.bool c,.string t]):=by
 refine ⟨q,?_,h⟩
 obtain ⟨rfl,rfl,rfl,rfl⟩:=agg4 h
 exact ⟨h1,h2⟩
theorem toList_inj {a b:ByteArray}:a.toList=b.toList↔a=b:=by
 constructor
 · intro h
   rw [ByteArray.toList_eq,ByteArray.toList_eq] at h
   obtain ⟨⟨x⟩⟩:=a
   obtain ⟨⟨y⟩⟩:=b
   have:x=y:=h
   rw [this]
 · rintro rfl; rfl
theorem may_key {q0:Rat} {b c p:Bool} {s t s' t':ByteArray} (h0:q0=Rat.divInt (numOf b s) (numOf c t)) (hp:p=decide (q0.num<0)) (hs:s'=mag q0.num.natAbs) (ht:t'=mag q0.den) (h3:s.size≤1024) (h4:t.size≤1024) :
  ((p==b&&s'.toList==s.toList)&&(false==c&&t'.toList==t.toList))=true↔IsFrac (.agg #[.bool b,.string s,.bool c,.string t]):=by
 have e0:fracV q0=.agg #[.bool p,.string s',.bool false,.string t']:=by rw [hp,hs,ht]; rfl
 simp only [Bool.and_eq_true,beq_iff_eq,toList_inj]
 constructor
 · rintro ⟨⟨rfl,rfl⟩,rfl,rfl⟩
   exact isFrac_of h3 h4 e0.symm
 · intro h
   obtain ⟨_,_,_,_,_,h6⟩:=isFrac_parts h
   rw [← h0,e0] at h6
   obtain ⟨h1,h2,h3,h4⟩:=agg4 h6
   exact ⟨⟨h1.symm,h2.symm⟩,h3.symm,h4.symm⟩
theorem eqtree {α:Type} (p b c:Bool) (s s' t t':ByteArray) (X Y:α):(if p=b then if s.toList=s'.toList then if c=true then Y else if t.toList=t'.toList then X else Y else Y else Y)=if ((p==b&&s.toList==s'.toList)&&(false==c&&t.toList==t'.toList))=true then X else Y:=by
 by_cases h1:p=b<;>by_cases h2:s.toList=s'.toList<;>cases c<;>by_cases h4:t.toList=t'.toList<;>simp [h1,h2,h4]
def MayPost (w0:World) (v:Value) (e:Ending) (w':World):Prop:=∃ r,e=.returned (.bool r)∧(r=true↔IsFrac v)∧Below w0.heap.size w0 w'
set_option maxHeartbeats 1600000 in
set_option maxRecDepth 100000 in
theorem May_any {w0:World} (b c:Bool) (s t:ByteArray) (hs:s.size≤maxLen) (ht:t.size≤maxLen) :
  Calls Tryz.prog 104 #[.agg #[.bool b,.string s,.bool c,.string t]] w0 (MayPost w0 (.agg #[.bool b,.string s,.bool c,.string t])):=by
 have HS:=Lib.hid hs
 have HT:=Lib.hid ht
 have HW0:=Lib.hid (below_new w0 (.cells #[.bool b,.string s,.bool c,.string t] 25))
 have HX0:=Lib.hid (BoxAt.new w0 #[.bool b,.string s,.bool c,.string t] 25)
 clear hs ht
 have hc0:=HX0.out.cell 0 (.bool b) rfl
 have hc1:=HX0.out.cell 1 (.string s) rfl
 have hc2:=HX0.out.cell 2 (.bool c) rfl
 have hc3:=HX0.out.cell 3 (.string t) rfl
 go_enter Tryz.func104,Tryz.ntmps104
 by_cases h1:WholeOk b s
 · have H1:=Lib.hid h1
   clear h1
   go_wp2_with fail
   refine (Check_any b s HS.out).mono ?_
   rintro e w1 ⟨k,rfl,hk,hb⟩
   obtain rfl:k=0:=hk.elim (fun h=>h.1) (fun h=>absurd H1.out h.2)
   clear hk
   have HX1:=Lib.hid (HX0.out.on hb)
   have HW1:=Lib.hid (HW0.out.trans (hb.mono HW0.out.size))
   clear hb hc0 hc1 hc2 hc3
   have hc0:=HX1.out.cell 0 (.bool b) rfl
   have hc1:=HX1.out.cell 1 (.string s) rfl
   have hc2:=HX1.out.cell 2 (.bool c) rfl
   have hc3:=HX1.out.cell 3 (.string t) rfl
   by_cases h2:WholeOk c t
   · have H2:=Lib.hid h2
     clear h2
     go_wp2_with fail
     refine (Check_any c t HT.out).mono ?_
     rintro e w2 ⟨k,rfl,hk,hb⟩
     obtain rfl:k=0:=hk.elim (fun h=>h.1) (fun h=>absurd H2.out h.2)
     clear hk
     have HX2:=Lib.hid (HX1.out.on hb)
     have HW2:=Lib.hid (HW1.out.trans (hb.mono HW1.out.size))
     clear hb hc0 hc1 hc2 hc3
     have hc0:=HX2.out.cell 0 (.bool b) rfl
     have hc1:=HX2.out.cell 1 (.string s) rfl
     have hc2:=HX2.out.cell 2 (.bool c) rfl
     have hc3:=HX2.out.cell 3 (.string t) rfl
     by_cases h3:s.size≤1024
     · have H3:=Lib.hid h3
       go_wp2_with fail
       refine (shortF_any b s true (by simpa using h3)).mono ?_
       rintro e w3 ⟨rfl,hb⟩
       have HX3:=Lib.hid (HX2.out.on hb)
       have HW3:=Lib.hid (HW2.out.trans (hb.mono HW2.out.size))
       clear hb hc0 hc1 hc2 hc3
       have hc0:=HX3.out.cell 0 (.bool b) rfl
       have hc1:=HX3.out.cell 1 (.string s) rfl
       have hc2:=HX3.out.cell 2 (.bool c) rfl
       have hc3:=HX3.out.cell 3 (.string t) rfl
       clear h3
       by_cases h4:t.size≤1024
       · have H4:=Lib.hid h4
         go_wp2_with fail
         refine (shortF_any c t true (by simpa using h4)).mono ?_
         rintro e w4 ⟨rfl,hb⟩
         have HX4:=Lib.hid (HX3.out.on hb)
         have HW4:=Lib.hid (HW3.out.trans (hb.mono HW3.out.size))
         clear hb hc0 hc1 hc2 hc3
         have hc0:=HX4.out.cell 0 (.bool b) rfl
         have hc1:=HX4.out.cell 1 (.string s) rfl
         have hc2:=HX4.out.cell 2 (.bool c) rfl
         have hc3:=HX4.out.cell 3 (.string t) rfl
         clear h4
         have hn:=numOf_ok H2.out
         by_cases h5:0<numOf c t
         · have hsg:(numOf c t).sign=1:=Int.sign_eq_one_of_pos h5
           have H5:=Lib.hid h5
           have HSG:=Lib.hid hsg
           clear h5 hsg hn
           go_wp2_with fail
           refine (WSign_any c t HT.out).mono ?_
           rintro e w5 ⟨k,rfl,hk,hb⟩
           obtain rfl:k=1:=hk.elim (fun h=>h.2.trans HSG.out) (fun h=>absurd H2.out h.1)
           clear hk
           have HX5:=Lib.hid (HX4.out.on hb)
           have HW5:=Lib.hid (HW4.out.trans (hb.mono HW4.out.size))
           clear hb hc0 hc1 hc2 hc3
           have hc0:=HX5.out.cell 0 (.bool b) rfl
           have hc1:=HX5.out.cell 1 (.string s) rfl
           have hc2:=HX5.out.cell 2 (.bool c) rfl
           have hc3:=HX5.out.cell 3 (.string t) rfl
           obtain ⟨q0,hq0⟩:∃ q0,q0=Rat.divInt (numOf b s) (numOf c t):=⟨_,rfl⟩
           have H0:Hid (numOf c t≠0):=by have:=H5.out; unfold Hid; omega
           have hz1:(mag (numOf b s).natAbs).size≤16384:=by rw [(numOf_ok H1.out).2.1]; exact Nat.le_trans H3.out (by decide)
           have hz2:(mag (numOf c t).natAbs).size≤16384:=by rw [(numOf_ok H2.out).2.1]; exact Nat.le_trans H4.out (by decide)
           have KQ:Hid (OkR q0):=by rw [hq0]; exact okR_divInt H0.out hz1 hz2
           have K1:Hid (Okn (numOf b s)):=okn_size hz1
           have K2:Hid (Okn (numOf c t)):=okn_size hz2
           have HQ0:=Lib.hid hq0
           clear hz1 hz2 hq0 hc0 hc1 hc2 hc3
           go_wp2
           refine wp_region_acts 5 (fun w'=>Below w0.heap.size w0 w'∧BoxAt w' w0.heap.size #[.bool b,.string s,.bool c,.string t] 25) (fun w w'=>Below w.heap.size w w') (fun i w v=>match i with
             | 0=>v=.agg #[.bool b,.string s,.bool c,.string t]
             | 1=>∃ g,v=.pointer (some ⟨g,0,none⟩)∧RatAt w g 0 q0
             | 2=>∃ p s' t',v=.agg #[.bool p,.string s',.bool false,.string t']∧Hid (p=decide (q0.num<0))∧Hid (s'=mag q0.num.natAbs)∧Hid (t'=mag q0.den)
             | 3=>v=.agg #[.bool b,.string s,.bool c,.string t]
             | _=>∃ r,v=.bool r∧Hid (r=true↔IsFrac (.agg #[.bool b,.string s,.bool c,.string t]))) (by kernel_rfl) (by kernel_rfl) (by kernel_rfl) ⟨HW5.out.drew,HX5.out⟩ (fun _ _=>(Below.refl _ _)) ?_ ⟨?_,?_,?_,?_,?_,trivial⟩ ?_
           · intro i w1 w2 v hC hC2 hE hV
             match i with
             | 0=>exact hV
             | 1=>obtain ⟨g,e,h⟩:=hV; exact ⟨g,e,h.on hE⟩
             | 2=>exact hV
             | 3=>exact hV
             | _+4=>exact hV
           · intro a' w' hag hC hd K hK
             have e1:a'.tmps.getD 1 undef=.pointer (some ⟨w0.heap.size,0,none⟩):=hag 1 rfl
             have hc0:=hC.2.cell 0 (.bool b) rfl
             have hc1:=hC.2.cell 1 (.string s) rfl
             have hc2:=hC.2.cell 2 (.bool c) rfl
             have hc3:=hC.2.cell 3 (.string t) rfl
             have HK:=Lib.hid (hK (.agg #[.bool b,.string s,.bool c,.string t]) _ hC (Below.refl _ _) rfl)
             clear hK hC
             go_step
             exact HK.out
           · intro a' w' hag hC hd K hK
             have e31:a'.tmps.getD 31 undef=.agg #[.bool b,.string s,.bool c,.string t]:=hd.1
             go_step
             refine (rat_any b c s t (Nat.le_trans H3.out (by decide)) (Nat.le_trans H4.out (by decide)) H0.out K1.out K2.out).mono ?_
             rintro e w2 ⟨g,rfl,hg,h1,h2⟩
             exact hK _ _ ⟨hC.1.trans (h2.mono hC.1.size),hC.2.on h2⟩ h2 ⟨_,rfl,by rw [HQ0.out]; exact h1⟩
           · intro a' w' hag hC hd K hK
             obtain ⟨g32,e32,h32⟩:=hd.1
             have e32:a'.tmps.getD 32 undef=.pointer (some ⟨g32,0,none⟩):=e32
             go_step
             refine (told_any h32 KQ.out).mono ?_
             rintro e w2 ⟨p,s',t',rfl,h1,h2,h3,hb⟩
             exact hK _ _ ⟨hC.1.trans (hb.mono hC.1.size),hC.2.on hb⟩ hb ⟨p,s',t',rfl,h1,h2,h3⟩
           · intro a' w' hag hC hd K hK
             have e1:a'.tmps.getD 1 undef=.pointer (some ⟨w0.heap.size,0,none⟩):=hag 1 rfl
             have hc0:=hC.2.cell 0 (.bool b) rfl
             have hc1:=hC.2.cell 1 (.string s) rfl
             have hc2:=hC.2.cell 2 (.bool c) rfl
             have hc3:=hC.2.cell 3 (.string t) rfl
             have HK:=Lib.hid (hK (.agg #[.bool b,.string s,.bool c,.string t]) _ hC (Below.refl _ _) rfl)
             clear hK hC
             go_step
             exact HK.out
           · intro a' w' hag hC hd K hK
             obtain ⟨p33,s33,t33,e33,hp33,hs33,ht33⟩:=hd.1
             have e33:a'.tmps.getD 33 undef=.agg #[.bool p33,.string s33,.bool false,.string t33]:=e33
             have e34:a'.tmps.getD 34 undef=.agg #[.bool b,.string s,.bool c,.string t]:=hd.2.1
             have key:=may_key HQ0.out hp33.out hs33.out ht33.out H3.out H4.out
             have HK:=Lib.hid (hK _ _ hC (Below.refl _ _) ⟨_,rfl,key⟩)
             clear hK hC key
             go_step
             rw [eqtree]
             generalize ((p33==b&&s33.toList==s.toList)&&(false==c&&t33.toList==t.toList))=r at HK ⊢
             cases r
             · exact HK.out
             · exact HK.out
           · intro u w' hC hall
             obtain ⟨u0,u1,u2,u3,u4,_⟩:=hall
             have u0:u 0=.agg #[.bool b,.string s,.bool c,.string t]:=u0
             have u3:u 3=.agg #[.bool b,.string s,.bool c,.string t]:=u3
             obtain ⟨r35,eu4,h35⟩:=u4
             have u4:u 4=.bool r35:=eu4
             simp only [fillR,List.take_succ_cons,List.take_zero,Act.put,List.setIfInBounds_toArray,List.set_cons_succ,List.set_cons_zero,Nat.zero_add,Nat.reduceAdd,u0,u3,u4]
             clear u0 u3 u4
             have HC:=Lib.hid hC.1
             clear hC
             go_wp2
             go_ret
             exact ⟨_,rfl,h35.out,HC.out⟩
         · obtain ⟨k5,hk5⟩:∃ k5,k5=(numOf c t).sign:=⟨_,rfl⟩
           have hk0:k5≤0:=by rw [hk5]; exact Int.sign_nonpos_iff.2 (by omega)
           have HK5:=Lib.hid hk5
           have H5:=Lib.hid h5
           clear hk5 h5 hn
           go_wp2_with fail
           refine (WSign_any c t HT.out).mono ?_
           rintro e w5 ⟨k,rfl,hk,hb⟩
           obtain rfl:k=k5:=hk.elim (fun h=>h.2.trans HK5.out.symm) (fun h=>absurd H2.out h.1)
           clear hk
           have HX5:=Lib.hid (HX4.out.on hb)
           have HW5:=Lib.hid (HW4.out.trans (hb.mono HW4.out.size))
           clear hb hc0 hc1 hc2 hc3
           have hc0:=HX5.out.cell 0 (.bool b) rfl
           have hc1:=HX5.out.cell 1 (.string s) rfl
           have hc2:=HX5.out.cell 2 (.bool c) rfl
           have hc3:=HX5.out.cell 3 (.string t) rfl
           go_wp2
           go_ret
           exact ⟨false,rfl,⟨fun h=>Bool.noConfusion h,fun h=>absurd (isFrac_parts h).2.2.2.2.1 (Int.not_lt.2 H5.out)⟩,HW5.out⟩
       · have H4:=Lib.hid h4
         go_wp2_with fail
         refine (shortF_any c t false (by simpa using h4)).mono ?_
         rintro e w4 ⟨rfl,hb⟩
         have HX4:=Lib.hid (HX3.out.on hb)
         have HW4:=Lib.hid (HW3.out.trans (hb.mono HW3.out.size))
         clear hb hc0 hc1 hc2 hc3
         have hc0:=HX4.out.cell 0 (.bool b) rfl
         have hc1:=HX4.out.cell 1 (.string s) rfl
         have hc2:=HX4.out.cell 2 (.bool c) rfl
         have hc3:=HX4.out.cell 3 (.string t) rfl
         clear h4
         go_wp2
         go_ret
         exact ⟨false,rfl,⟨fun h=>Bool.noConfusion h,fun h=>absurd (isFrac_parts h).2.2.2.1 H4.out⟩,HW4.out⟩
     · have H3:=Lib.hid h3
       go_wp2_with fail
       refine (shortF_any b s false (by simpa using h3)).mono ?_
       rintro e w3 ⟨rfl,hb⟩
       have HX3:=Lib.hid (HX2.out.on hb)
       have HW3:=Lib.hid (HW2.out.trans (hb.mono HW2.out.size))
       clear hb hc0 hc1 hc2 hc3
       have hc0:=HX3.out.cell 0 (.bool b) rfl
       have hc1:=HX3.out.cell 1 (.string s) rfl
       have hc2:=HX3.out.cell 2 (.bool c) rfl
       have hc3:=HX3.out.cell 3 (.string t) rfl
       clear h3
       go_wp2
       go_ret
       exact ⟨false,rfl,⟨fun h=>Bool.noConfusion h,fun h=>absurd (isFrac_parts h).2.2.1 H3.out⟩,HW3.out⟩
   · have H2:=Lib.hid h2
     clear h2
     go_wp2_with fail
     refine (Check_any c t HT.out).mono ?_
     rintro e w2 ⟨k,rfl,hk,hb⟩
     obtain rfl:k=2:=hk.elim (fun h=>absurd h.2 H2.out) (fun h=>h.1)
     clear hk
     have HX2:=Lib.hid (HX1.out.on hb)
     have HW2:=Lib.hid (HW1.out.trans (hb.mono HW1.out.size))
     clear hb hc0 hc1 hc2 hc3
     have hc0:=HX2.out.cell 0 (.bool b) rfl
     have hc1:=HX2.out.cell 1 (.string s) rfl
     have hc2:=HX2.out.cell 2 (.bool c) rfl
     have hc3:=HX2.out.cell 3 (.string t) rfl
     go_wp2
     go_ret
     exact ⟨false,rfl,⟨fun h=>Bool.noConfusion h,fun h=>absurd (isFrac_parts h).2.1 H2.out⟩,HW2.out⟩
 · have H1:=Lib.hid h1
   clear h1
   go_wp2_with fail
   refine (Check_any b s HS.out).mono ?_
   rintro e w1 ⟨k,rfl,hk,hb⟩
   obtain rfl:k=2:=hk.elim (fun h=>absurd h.2 H1.out) (fun h=>h.1)
   clear hk
   have HX1:=Lib.hid (HX0.out.on hb)
   have HW1:=Lib.hid (HW0.out.trans (hb.mono HW0.out.size))
   clear hb hc0 hc1 hc2 hc3
   have hc0:=HX1.out.cell 0 (.bool b) rfl
   have hc1:=HX1.out.cell 1 (.string s) rfl
   have hc2:=HX1.out.cell 2 (.bool c) rfl
   have hc3:=HX1.out.cell 3 (.string t) rfl
   go_wp2
   go_ret
   exact ⟨false,rfl,⟨fun h=>Bool.noConfusion h,fun h=>absurd (isFrac_parts h).1 H1.out⟩,HW1.out⟩
end Go.Proofs.YthkpghhoffihmaaGreatDoor
end
section
namespace Go.Proofs.YthkpghhoffihmaaGreatDoor
open Go Go.RowKit
theorem Row.set {w:World} {base g cap n:Nat} {xs:List Nat} (h:Row w base (.slice (some ⟨g,0,none⟩) n cap) xs) (i x:Nat) (m:Int) (hi:i<xs.length) (hx:x<4294967296) (hm:m=x):Row (w.setCell ⟨g,i,none⟩ (.int .u32 m)) base (.slice (some ⟨g,0,none⟩) n cap) (xs.set i x):=by
 subst hm
 obtain ⟨hw,hlen,h2⟩:=h
 rcases h2 with ⟨e,_⟩ | ⟨g',cap',cur,e,hg,hh,hc,hm,hcs,ht⟩
 · cases e
 · injection e with e1 e2 e3
   injection e1 with e1
   injection e1 with e1
   subst e1 e3
   refine ⟨hw.set i x hx,by simp,.inr ⟨g,cap,cur.setIfInBounds i (.int .u32 (x:Int)),by rw [List.length_set,e2],hg,by simp [World.setCell,Array.getElem?_modify,hh],by rw [List.length_set]; exact hc,hm,by simpa using hcs,?_⟩⟩
   rw [List.length_set,Array.toList_setIfInBounds,List.take_set,ht,List.map_set]
   rfl
end Go.Proofs.YthkpghhoffihmaaGreatDoor
end
section
namespace Go.Proofs.YthkpghhoffihmaaGreatDoor
open Go
def Dg (x:Nat):Prop:=48≤x∧x<58
def dval (xs:List Nat):Nat:=xs.foldl (fun a x=>10*a+(x-48)) 0
theorem dval_nil:dval []=0:=rfl
theorem dval_snoc (xs:List Nat) (x:Nat):dval (xs++[x])=10*dval xs+(x-48):=by simp [dval,List.foldl_append]
theorem dval_dd (n:Nat):dval (dd n).reverse=n:=by
 induction n using Nat.strongRecOn with
 | ind n ih =>
  rcases Nat.eq_zero_or_pos n with h | h
  · subst h
    rw [dd_zero]
    rfl
  · rw [dd_pos n h,List.reverse_cons,dval_snoc,ih (n/10) (by omega)]
    omega
theorem snoc_ind {P:List Nat→Prop} (h0:P []) (h1:∀ xs x,P xs→P (xs++[x])) (xs:List Nat):P xs:=by
 have h:∀ ys:List Nat,P ys.reverse:=fun ys=>by
  induction ys with
  | nil=>exact h0
  | cons y ys ih =>
   rw [List.reverse_cons]
   exact h1 _ _ ih
 have:=h xs.reverse
 rwa [List.reverse_reverse] at this
theorem dd_dval (xs:List Nat):(∀ x∈xs,Dg x)→xs.head?≠some 48→dd (dval xs)=xs.reverse:=by
 refine snoc_ind (P:=fun xs=>(∀ x∈xs,Dg x)→xs.head?≠some 48→dd (dval xs)=xs.reverse) ?_ ?_ xs
 · intro _ _
   rw [dval_nil,dd_zero]
   rfl
 · intro xs x ih h h0
   have hx:Dg x:=h x (by simp)
   have hxs:∀ y∈xs,Dg y:=fun y hy=>h y (by simp [hy])
   have hx1:=hx.1
   have hx2:=hx.2
   rw [dval_snoc,List.reverse_append]
   cases xs with
   | nil =>
    have hne:x≠48:=fun e=>h0 (by simp [e])
    rw [dval_nil,dd_pos _ (by omega),show (10*0+(x-48))/10=0 by omega,dd_zero,show 48+(10*0+(x-48)) % 10=x by omega]
    rfl
   | cons y ys =>
    have k:=ih hxs (fun e=>h0 (by simpa using e))
    have hp:0<dval (y::ys):=by
     rcases Nat.eq_zero_or_pos (dval (y::ys)) with e | e
     · have:=(dd_nil_iff _).2 e
       rw [k] at this
       simp at this
     · exact e
    rw [dd_pos _ (by omega),show (10*dval (y::ys)+(x-48))/10=dval (y::ys) by omega,k,show 48+(10*dval (y::ys)+(x-48)) % 10=x by omega]
    rfl
def DgT (xs:List Nat):Prop:=xs≠[]∧(∀ x∈xs,Dg x)∧(xs.head?=some 48→xs.length=1)
theorem DgT.pos {xs:List Nat} (h:DgT xs) (h0:xs.head?≠some 48):0<dval xs:=by
 rcases Nat.eq_zero_or_pos (dval xs) with e | e
 · have:=dd_dval xs h.2.1 h0
   rw [(dd_nil_iff _).2 e] at this
   exact absurd (List.reverse_eq_nil_iff.1 this.symm) h.1
 · exact e
theorem txt_nat {xs:List Nat} (h:DgT xs):txt (dval xs:Int)=xs:=by
 by_cases h0:xs.head?=some 48
 · have hl:=h.2.2 h0
   match xs,hl,h0 with
   | [x],_,h0 =>
    have e:x=48:=by simpa using h0
    subst e
    rfl
 · have hp:=h.pos h0
   unfold txt
   rw [if_neg (by omega),if_neg (by omega),Int.natAbs_natCast,dd_dval xs h.2.1 h0,List.append_nil,List.reverse_reverse]
theorem txt_neg {xs:List Nat} (h:DgT xs) (h0:xs.head?≠some 48):txt (-(dval xs:Int))=45::xs:=by
 have hp:=h.pos h0
 unfold txt
 rw [if_neg (by omega),if_pos (by omega),Int.natAbs_neg,Int.natAbs_natCast,dd_dval xs h.2.1 h0,List.reverse_append,List.reverse_reverse]
 rfl
theorem dd_head (n:Nat):(dd n).reverse.head?≠some 48:=by
 induction n using Nat.strongRecOn with
 | ind n ih =>
  rcases Nat.eq_zero_or_pos n with h | h
  · subst h
    rw [dd_zero]
    simp
  · rw [dd_pos n h,List.reverse_cons]
    rcases Nat.eq_zero_or_pos (n/10) with h1 | h1
    · rw [h1,dd_zero]
      simp
      omega
    · have k:=ih (n/10) (by omega)
      have hne:dd (n/10)≠[]:=fun e=>by
       have:=(dd_nil_iff _).1 e
       omega
      have hr:(dd (n/10)).reverse≠[]:=fun e=>hne (List.reverse_eq_nil_iff.1 e)
      match hq:(dd (n/10)).reverse,hr with
      | y::ys,_ =>
       rw [hq] at k
       simpa using k
theorem dd_dgt {n:Nat} (h:0<n):DgT (dd n).reverse:=by
 refine ⟨fun e=>?_,fun x hx=>dd_digit n x (List.mem_reverse.1 hx),fun e=>absurd e (dd_head n)⟩
 have:=(dd_nil_iff n).1 (List.reverse_eq_nil_iff.1 e)
 omega
theorem txt_is (n:Int):(0≤n∧DgT (txt n)∧(dval (txt n):Int)=n)∨(n<0∧∃ xs,txt n=45::xs∧DgT xs∧xs.head?≠some 48 ∧ -(dval xs:Int)=n):=by
 by_cases h0:n=0
 · subst h0
   refine .inl ⟨by omega,⟨by decide,?_,fun _=>rfl⟩,rfl⟩
   intro x hx
   have:x=48:=by simpa [txt] using hx
   subst this
   exact ⟨by decide,by decide⟩
 by_cases h:n<0
 · refine .inr ⟨h,(dd n.natAbs).reverse,?_,dd_dgt (by omega),dd_head _,?_⟩
   · unfold txt
     rw [if_neg h0,if_pos h,List.reverse_append]
     rfl
   · rw [dval_dd]
     omega
 · have e:txt n=(dd n.natAbs).reverse:=by
    unfold txt
    rw [if_neg h0,if_neg h,List.append_nil]
   refine .inl ⟨by omega,?_,?_⟩
   · rw [e]
     exact dd_dgt (by omega)
   · rw [e,dval_dd]
     omega
inductive Rd (xs:List Nat):Prop where
 | nat (h:DgT xs)
 | neg (ys:List Nat) (e:xs=45::ys) (h:DgT ys) (h0:ys.head?≠some 48)
def rdN (xs:List Nat):Int:=if xs.head?=some 45 then -(dval xs.tail:Int) else dval xs
theorem Rd.txt {xs:List Nat} (h:Rd xs):txt (rdN xs)=xs:=by
 cases h with
 | nat h =>
  have hne:xs.head?≠some 45:=fun e=>by
   cases xs with
   | nil=>cases e
   | cons x r =>
    have e2:x=45:=by simpa using e
    have:=(h.2.1 x (by simp)).1
    omega
  unfold rdN
  rw [if_neg hne]
  exact txt_nat h
 | neg ys e h h0 =>
  subst e
  unfold rdN
  rw [if_pos (show (45::_:List Nat).head?=some 45 from rfl)]
  exact txt_neg h h0
theorem rd_txt (n:Int):Rd (Go.Proofs.YthkpghhoffihmaaGreatDoor.txt n)∧rdN (Go.Proofs.YthkpghhoffihmaaGreatDoor.txt n)=n:=by
 rcases txt_is n with ⟨h1,h2,h3⟩ | ⟨h1,xs,h2,h3,h4,h5⟩
 · have hR:Rd (Go.Proofs.YthkpghhoffihmaaGreatDoor.txt n):=.nat h2
   refine ⟨hR,?_⟩
   have hne:(Go.Proofs.YthkpghhoffihmaaGreatDoor.txt n).head?≠some 45:=fun e=>by
    match hq:Go.Proofs.YthkpghhoffihmaaGreatDoor.txt n,e with
    | x::r,e =>
     have e2:x=45:=by simpa using e
     have:=(h2.2.1 x (by rw [hq]; simp)).1
     omega
   unfold rdN
   rw [if_neg hne]
   exact h3
 · rw [h2]
   refine ⟨.neg xs rfl h3 h4,?_⟩
   unfold rdN
   rw [if_pos (show (45::_:List Nat).head?=some 45 from rfl)]
   exact h5
theorem dval_append (xs ys:List Nat):dval (xs++ys)=dval xs*10^ys.length+dval ys:=by
 refine snoc_ind (P:=fun ys=>dval (xs++ys)=dval xs*10^ys.length+dval ys) ?_ ?_ ys
 · rw [List.append_nil,dval_nil]
   simp
 · intro ys y ih
   rw [← List.append_assoc,dval_snoc,ih,dval_snoc,List.length_append,List.length_cons,List.length_nil,Nat.pow_succ,← Nat.mul_assoc,Nat.mul_add,Nat.mul_comm 10 (dval xs*10^ys.length)]
   omega
theorem dval_lt (xs:List Nat):(∀ x∈xs,Dg x)→dval xs<10^xs.length:=by
 refine snoc_ind (P:=fun xs=>(∀ x∈xs,Dg x)→dval xs<10^xs.length) ?_ ?_ xs
 · intro _
   rw [dval_nil]
   decide
 · intro xs x ih h
   have h1:=ih fun y hy=>h y (by simp [hy])
   have h2:Dg x:=h x (by simp)
   have h3:=h2.2
   rw [dval_snoc,List.length_append,List.length_cons,List.length_nil,Nat.pow_succ]
   omega
theorem mulw_val (xs ys:List Nat) (k m c a t:Nat) (hy:ys.length=k) (hv:val ys+4294967296^k*c=val (xs.take k)*m+a) (ht:t=c+xs.getD k 0*m) :
  val (ys++[t % 4294967296])+4294967296^(k+1)*(t/4294967296)=val (xs.take (k+1))*m+a:=by
 rw [val_snoc,hy,val_take_step,Nat.add_mul]
 have h1:4294967296^k*(t % 4294967296)+4294967296^(k+1)*(t/4294967296)=4294967296^k*t:=by
  rw [Nat.pow_succ,Nat.mul_assoc,← Nat.mul_add,Nat.mod_add_div]
 rw [ht,Nat.mul_add,← Nat.mul_assoc] at h1
 rw [← ht] at h1
 omega
theorem mulw_end (xs ys:List Nat) (m c a:Nat) (hl:ys.length=xs.length) (hv:val ys+4294967296^ys.length*c=val (xs.take xs.length)*m+a):val (ys++if 0<c then [c] else [])=val xs*m+a:=by
 rw [val_take_all _ _ (Nat.le_refl _)] at hv
 by_cases h:0<c
 · rw [if_pos h,val_snoc]
   exact hv
 · have h0:c=0:=by omega
   subst h0
   rw [if_neg h,List.append_nil]
   omega
theorem rd_neg (ys:List Nat):Rd (45::ys)↔DgT ys∧ys.head?≠some 48:=by
 constructor
 · rintro (h | ⟨zs,e,h,h0⟩)
   · have:=(h.2.1 45 (by simp)).1
     omega
   · injection e with _ e
     subst e
     exact ⟨h,h0⟩
 · rintro ⟨h,h0⟩
   exact .neg ys rfl h h0
theorem rd_nat {xs:List Nat} (h:xs.head?≠some 45):Rd xs↔DgT xs:=by
 constructor
 · rintro (h | ⟨zs,e,_,_⟩)
   · exact h
   · subst e
     exact absurd rfl h
 · exact fun h=>.nat h
theorem dgt_iff (xs:List Nat):DgT xs↔xs≠[]∧(∀ j,j<xs.length→Dg (xs.getD j 0))∧¬ (xs.getD 0 0=48∧1<xs.length):=by
 have hd:(∀ x∈xs,Dg x)↔∀ j,j<xs.length→Dg (xs.getD j 0):=by
  constructor
  · intro h j hj
    rw [List.getD_eq_getElem?_getD,List.getElem?_eq_getElem hj]
    exact h _ (List.getElem_mem hj)
  · intro h x hx
    obtain ⟨j,hj,e⟩:=List.getElem_of_mem hx
    have:=h j hj
    rw [List.getD_eq_getElem?_getD,List.getElem?_eq_getElem hj,e] at this
    exact this
 unfold DgT
 rw [hd]
 cases xs with
 | nil=>simp
 | cons x r =>
  have e1:(x::r).head?=some 48↔x=48:=by simp
  have e2:(x::r).getD 0 0=x:=rfl
  rw [e1,e2]
  refine and_congr_right fun _=>and_congr_right fun _=>⟨fun h k=>?_,fun h k=>?_⟩
  · have:=h k.1
    omega
  · have hl:0<(x::r).length:=by simp
    have:¬ 1<(x::r).length:=fun e=>h ⟨k,e⟩
    omega
theorem dval_take (xs:List Nat) (k:Nat) (h:k<xs.length):dval (xs.take (k+1))=10*dval (xs.take k)+(xs.getD k 0-48):=by
 have e:xs.take (k+1)=xs.take k++[xs.getD k 0]:=by
  rw [List.getD_eq_getElem?_getD,List.getElem?_eq_getElem h]
  exact List.take_succ_eq_append_getElem h
 rw [e,dval_snoc]
def cutA:List Nat→List Nat
 | []=>[]
 | x::r=>if x=47 then [] else x::cutA r
def cutB:List Nat→Option (List Nat)
 | []=>none
 | x::r=>if x=47 then some r else cutB r
theorem cut_join:∀ xs:List Nat,(cutB xs=none∧cutA xs=xs)∨∃ r,cutB xs=some r∧xs=cutA xs++47::r
 | []=>.inl ⟨rfl,rfl⟩
 | x::r=>by
  by_cases h:x=47
  · subst h
    exact .inr ⟨r,by unfold cutB; rw [if_pos rfl],by unfold cutA; rw [if_pos rfl]; rfl⟩
  · rcases cut_join r with ⟨h1,h2⟩ | ⟨t,h1,h2⟩
    · exact .inl ⟨by unfold cutB; rw [if_neg h]; exact h1,by unfold cutA; rw [if_neg h,h2]⟩
    · refine .inr ⟨t,by unfold cutB; rw [if_neg h]; exact h1,?_⟩
      unfold cutA
      rw [if_neg h,List.cons_append,← h2]
theorem cutA_all {xs:List Nat} (h:47 ∉ xs):cutA xs=xs∧cutB xs=none:=by
 rcases cut_join xs with ⟨h1,h2⟩ | ⟨r,h1,h2⟩
 · exact ⟨h2,h1⟩
 · exact absurd (by rw [h2]; simp) h
theorem cut_at (xs r:List Nat) (h:47 ∉ xs):cutA (xs++47::r)=xs∧cutB (xs++47::r)=some r:=by
 induction xs with
 | nil=>exact ⟨by show cutA (47::r)=[]; unfold cutA; rw [if_pos rfl],by show cutB (47::r)=some r; unfold cutB; rw [if_pos rfl]⟩
 | cons x xs ih =>
  have hx:x≠47:=fun e=>h (by simp [e])
  obtain ⟨h1,h2⟩:=ih (fun k=>h (List.mem_cons_of_mem _ k))
  refine ⟨?_,?_⟩
  · show cutA (x::(xs++47::r))=x::xs
    unfold cutA
    rw [if_neg hx,h1]
  · show cutB (x::(xs++47::r))=some r
    unfold cutB
    rw [if_neg hx,h2]
theorem txt_no (n:Int):47 ∉ txt n:=fun h=>by
 rcases txt_is n with ⟨_,h2,_⟩ | ⟨_,xs,h2,h3,_,_⟩
 · have:=(h2.2.1 47 h).1
   omega
 · rw [h2] at h
   rcases List.mem_cons.1 h with e | e
   · cases e
   · have:=(h3.2.1 47 e).1
     omega
def tqL (x:Rat):List Nat:=if x.den=1 then txt x.num else txt x.num++47::txt (x.den:Int)
theorem tq_one {x:Rat} (h:x.den=1):cutA (tqL x)=txt x.num∧cutB (tqL x)=none:=by
 unfold tqL
 rw [if_pos h]
 exact cutA_all (txt_no _)
theorem tq_two {x:Rat} (h:x.den≠1):cutA (tqL x)=txt x.num∧cutB (tqL x)=some (txt (x.den:Int)):=by
 unfold tqL
 rw [if_neg h]
 exact cut_at _ _ (txt_no _)
theorem tq_read (x:Rat):Rd (cutA (tqL x))∧rdN (cutA (tqL x))=x.num∧((x.den=1∧cutB (tqL x)=none)∨(x.den≠1∧∃ r,cutB (tqL x)=some r∧Rd r∧rdN r=(x.den:Int))):=by
 by_cases h:x.den=1
 · obtain ⟨h1,h2⟩:=tq_one h
   rw [h1]
   exact ⟨(rd_txt _).1,(rd_txt _).2,.inl ⟨h,h2⟩⟩
 · obtain ⟨h1,h2⟩:=tq_two h
   rw [h1]
   exact ⟨(rd_txt _).1,(rd_txt _).2,.inr ⟨h,_,h2,(rd_txt _).1,(rd_txt _).2⟩⟩
theorem tq_inj {x y:Rat} (h:tqL x=tqL y):x=y:=by
 obtain ⟨_,h1,h2⟩:=tq_read x
 obtain ⟨_,k1,k2⟩:=tq_read y
 rw [h] at h1 h2
 have hn:x.num=y.num:=h1.symm.trans k1
 have hd:x.den=y.den:=by
  rcases h2 with ⟨a,b⟩ | ⟨a,r,b,_,c⟩<;>rcases k2 with ⟨a',b'⟩ | ⟨a',r',b',_,c'⟩
  · rw [a,a']
  · rw [b] at b'
    cases b'
  · rw [b] at b'
    cases b'
  · rw [b] at b'
    cases b'
    have:=c.symm.trans c'
    omega
 exact Rat.ext hn hd
theorem getD_app (a b:List Nat) (j:Nat):(a++b).getD (a.length+j) 0=b.getD j 0:=by
 rw [List.getD_eq_getElem?_getD,List.getD_eq_getElem?_getD,List.getElem?_append_right (by omega)]
 congr 2
 omega
def splitL (c:Nat):List Nat→List (List Nat)
 | []=>[[]]
 | x::r=>if x=c then []::splitL c r else match splitL c r with
  | p::ps=>(x::p)::ps
  | []=>[[x]]
theorem split_ne (c:Nat) (xs:List Nat):splitL c xs≠[]:=by
 cases xs with
 | nil=>intro h; cases h
 | cons x r =>
  unfold splitL
  split
  · intro h; cases h
  · split
    · intro h; cases h
    · intro h; cases h
end Go.Proofs.YthkpghhoffihmaaGreatDoor
end
