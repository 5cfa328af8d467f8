/- Mem. -/
import Derived.WalkKit
import Derived.WalkSmall
import Derived.Lib.Hide
import Derived.Deep.Draws
import Derived.Laws.CopyOwn
import Derived.Laws.AppendOwnNone
import Derived.Test.YtmfedaakeeiolaaGreatProg
import Derived.Test.YtmfedaakeeiolaaGreatTk2
set_option linter.unnecessarySimpa false
set_option linter.unusedVariables false
set_option linter.unusedSimpArgs false
section
namespace Go.Proofs.YtmfedaakeeiolaaGreat
open Go.RowKit
theorem heap_some_lt {w:World} {b:Nat} {o:Obj} (h:w.heap[b]?=some o):b<w.heap.size:=by
 rcases Nat.lt_or_ge b w.heap.size with hlt | hge
 · exact hlt
 · rw [Array.getElem?_eq_none hge] at h; cases h
theorem Below.drewN_ {B:Nat} {a w:World} (h:Below B a w) (n:Nat):Below B a (w.drewN n):=⟨h.os,h.tape,h.output,h.size,h.block⟩
def Dr (w w':World):Prop:=∃ k,w'=w.drewN k
theorem Dr.refl (w:World):Dr w w:=⟨0,rfl⟩
theorem Dr.n {a w:World} (h:Dr a w) (k:Nat):Dr a (w.drewN k):=by
 obtain ⟨j,rfl⟩:=h
 exact ⟨j+k,World.drewN_drewN ..⟩
theorem Dr.below {w w':World} (h:Dr w w') (B:Nat):Below B w w':=by
 obtain ⟨j,rfl⟩:=h
 exact Below.drewN_ (Below.refl _ _) j
structure Touch (w w':World) (b o n:Nat):Prop where
 os:w'.os=w.os
 tape:w'.tape=w.tape
 output:w'.output=w.output
 size:w.heap.size≤w'.heap.size
 block:∀ k,k<w.heap.size→k≠b→w'.heap[k]?=w.heap[k]?
 own:∀ cs t fr,w.heap[b]?=some (.cells cs t fr)→∃ cs',w'.heap[b]?=some (.cells cs' t fr)∧cs'.size=cs.size∧∀ i,(i<o∨o+n≤i)→cs'[i]?=cs[i]?
theorem Touch.of_below {w w':World} (h:Below w.heap.size w w') (b o n:Nat):Touch w w' b o n :=
 ⟨h.os,h.tape,h.output,h.size,fun k hk _=>h.block k hk,fun cs t fr hb=>⟨cs,by rw [h.block b (heap_some_lt hb)]; exact hb,rfl,fun _ _=>rfl⟩⟩
theorem Touch.refl (w:World) (b o n:Nat):Touch w w b o n:=.of_below (Below.refl _ _) b o n
theorem Touch.trans {a b c:World} {g o n:Nat} (h:Touch a b g o n) (k:Touch b c g o n):Touch a c g o n:=by
 refine ⟨k.os.trans h.os,k.tape.trans h.tape,k.output.trans h.output,Nat.le_trans h.size k.size,fun i hi hne=>(k.block i (Nat.lt_of_lt_of_le hi h.size) hne).trans (h.block i hi hne),fun cs t fr hb=>?_⟩
 obtain ⟨cs1,h1,h2,h3⟩:=h.own cs t fr hb
 obtain ⟨cs2,k1,k2,k3⟩:=k.own cs1 t fr h1
 exact ⟨cs2,k1,k2.trans h2,fun i hi=>(k3 i hi).trans (h3 i hi)⟩
theorem Touch.mono {w w':World} {b o n o' n':Nat} (h:Touch w w' b o n) (h1:o'≤o) (h2:o+n≤o'+n'):Touch w w' b o' n' :=
 ⟨h.os,h.tape,h.output,h.size,h.block,fun cs t fr hb=>by
  obtain ⟨cs1,k1,k2,k3⟩:=h.own cs t fr hb
  exact ⟨cs1,k1,k2,fun i hi=>k3 i (by omega)⟩⟩
theorem Touch.below {w w':World} {b o n B:Nat} (h:Touch w w' b o n) (h1:B≤b) (h2:B≤w.heap.size):Below B w w' :=
 ⟨h.os,h.tape,h.output,h.size,fun k hk=>h.block k (by omega) (by omega)⟩
theorem Touch.then_below {a b c:World} {g o n:Nat} (h:Touch a b g o n) (k:Below b.heap.size b c):Touch a c g o n:=h.trans (.of_below k g o n)
theorem Touch.drew {a w:World} {g o n:Nat} (h:Touch a w g o n):Touch a w.drew g o n:=h.then_below (Below.refl _ _).drew
theorem Touch.set_ {a w:World} {g o n:Nat} (h:Touch a w g o n) (i:Nat) (hi:o≤i∧i<o+n) (u:Value):Touch a (w.setCell ⟨g,i,none⟩ u) g o n:=by
 refine h.trans ⟨rfl,rfl,rfl,by simp [World.setCell],fun k hk hne=>Below.heap_setCell w ⟨g,i,none⟩ u k hne,fun cs t fr hb=>?_⟩
 refine ⟨cs.setIfInBounds i u,by simp [World.setCell,Array.getElem?_modify,hb],by simp,fun j hj=>?_⟩
 rw [Array.getElem?_setIfInBounds_ne (by omega)]
def Slot (w:World) (b o n:Nat):Prop:=∃ cs t,w.heap[b]?=some (.cells cs t (0,0))∧t≠284∧o+n≤cs.size
theorem Slot.lt {w:World} {b o n:Nat} (h:Slot w b o n):b<w.heap.size:=by obtain ⟨_,_,h,_⟩:=h; exact heap_some_lt h
theorem Slot.below {w w':World} {b o n B:Nat} (h:Slot w b o n) (k:Below B w w') (hB:b<B):Slot w' b o n:=by
 obtain ⟨cs,t,h1,h2,h3⟩:=h
 exact ⟨cs,t,by rw [k.block b hB]; exact h1,h2,h3⟩
theorem Slot.on {w w':World} {b o n:Nat} (h:Slot w b o n) (k:Below w.heap.size w w'):Slot w' b o n:=h.below k h.lt
theorem Slot.touch {w w':World} {b o n b' o' n':Nat} (h:Slot w b o n) (k:Touch w w' b' o' n'):Slot w' b o n:=by
 have hlt:=h.lt
 obtain ⟨cs,t,h1,h2,h3⟩:=h
 by_cases hb:b=b'
 · subst hb
   obtain ⟨cs',k1,k2,_⟩:=k.own _ _ _ h1
   exact ⟨cs',t,k1,h2,by omega⟩
 · exact ⟨cs,t,by rw [k.block b hlt hb]; exact h1,h2,h3⟩
theorem Slot.part {w:World} {b o n o' n':Nat} (h:Slot w b o n) (h2:o'+n'≤o+n):Slot w b o' n':=by
 obtain ⟨cs,t,h1,h3,h4⟩:=h
 exact ⟨cs,t,h1,h3,by omega⟩
theorem Slot.frozen {w:World} {b o n:Nat} (h:Slot w b o n) (i:Nat):w.frozen? ⟨b,i,none⟩=false:=by
 obtain ⟨cs,t,h1,_,_⟩:=h
 simp [World.frozen?,h1]
theorem Slot.cell {w:World} {b o n:Nat} (h:Slot w b o n) (i:Nat) (hi:i<o+n):∃ v,w.cell? ⟨b,i,none⟩=some v:=by
 obtain ⟨cs,t,h1,_,h3⟩:=h
 have:i<cs.size:=by omega
 exact ⟨cs[i],by rw [cell_of_row w b i cs t (0,0) h1]; exact Array.getElem?_eq_getElem this⟩
theorem sub_word (x y:Nat) (hx:x<4294967296) (hy:y≤4294967296):∃ (D:Int) (z d:Nat),IntKind.u64.wrap ((x:Int)-(y:Int))=D∧D % 4294967296=(z:Int)∧bits BinOp.and IntKind.u64 (D/4294967296) 1=(d:Int)∧z<4294967296∧d≤1∧z+y=x+4294967296*d:=by
 have hw:IntKind.u64.wrap ((x:Int)-(y:Int))=((x:Int)-(y:Int)) % 18446744073709551616:=by
  simp [IntKind.wrap,IntKind.bits,IntKind.signed]
 rcases Nat.lt_or_ge x y with h | h
 · refine ⟨_,x+4294967296-y,1,rfl,?_,?_,by omega,by omega,by omega⟩
   · rw [hw]; omega
   · rw [hw,and_one_u64 _ (by omega) (by omega)]; omega
 · refine ⟨_,x-y,0,rfl,?_,?_,by omega,by omega,by omega⟩
   · rw [hw]; omega
   · rw [hw,and_one_u64 _ (by omega) (by omega)]; omega
theorem and_mask (c:Nat) (h:c<18446744073709551616):bits BinOp.and IntKind.u64 (c:Int) 4294967295=((c % 4294967296:Nat):Int):=by
 have:=bits_and_u64_nat c 4294967295 h (by omega)
 rw [show (4294967295:Nat)=2^32-1 from rfl,Nat.and_two_pow_sub_one_eq_mod] at this
 exact this
theorem sub_word2 (x y b:Nat) (hx:x<4294967296) (hy:y<4294967296) (hb:b≤1):∃ (D1 D:Int) (z d:Nat),IntKind.u64.wrap ((x:Int)-(y:Int))=D1∧IntKind.u64.wrap (D1-(b:Int))=D∧D % 4294967296=(z:Int)∧bits BinOp.and IntKind.u64 (D/4294967296) 1=(d:Int)∧z<4294967296∧d≤1∧z+(y+b)=x+4294967296*d:=by
 obtain ⟨D,z,d,h1,h2,h3,h4,h5,h6⟩:=sub_word x (y+b) hx (by omega)
 refine ⟨_,D,z,d,rfl,?_,h2,h3,h4,h5,h6⟩
 rw [← h1]
 simp only [IntKind.wrap,IntKind.bits,IntKind.signed]
 simp
 omega
def Words (w:World) (v:Value) (xs:List Nat):Prop :=
 Wf xs∧xs.length≤17179869184∧∃ A cap,v=.slice A xs.length cap∧xs.length≤cap ∧
  (xs≠[]→∃ b o cs fr,A=some ⟨b,o,none⟩∧w.heap[b]?=some (.cells cs 284 fr)∧∀ i,i<xs.length→cs[o+i]?=some (.int .u32 (xs.getD i 0:Nat)))
theorem Words.nil (w:World):Words w (.slice none 0 0) []:=⟨Wf.nil,by simp,none,0,rfl,Nat.le_refl _,fun h=>absurd rfl h⟩
theorem Words.below {w w':World} {v:Value} {xs:List Nat} (h:Words w v xs) (k:Below w.heap.size w w'):Words w' v xs:=by
 obtain ⟨h1,h2,A,cap,h3,h4,h5⟩:=h
 refine ⟨h1,h2,A,cap,h3,h4,fun hx=>?_⟩
 obtain ⟨b,o,cs,fr,hA,hb,hc⟩:=h5 hx
 exact ⟨b,o,cs,fr,hA,by rw [k.block b (heap_some_lt hb)]; exact hb,hc⟩
theorem Words.touch {w w':World} {v:Value} {xs:List Nat} {b o n m:Nat} (h:Words w v xs) (hs:Slot w b o m) (k:Touch w w' b o n):Words w' v xs:=by
 obtain ⟨h1,h2,A,cap,h3,h4,h5⟩:=h
 refine ⟨h1,h2,A,cap,h3,h4,fun hx=>?_⟩
 obtain ⟨g,o',cs,fr,hA,hb,hc⟩:=h5 hx
 obtain ⟨cs2,t,s1,s2,_⟩:=hs
 have hne:g≠b:=by
  rintro rfl
  rw [hb] at s1
  injection s1 with s1
  injection s1 with _ s3
  exact s2 s3.symm
 exact ⟨g,o',cs,fr,hA,by rw [k.block g (heap_some_lt hb) hne]; exact hb,hc⟩
def NW (w:World) (b:Nat):Prop:=∀ cs fr,w.heap[b]?≠some (.cells cs 284 fr)
theorem Slot.nw {w:World} {b o n:Nat} (h:Slot w b o n):NW w b:=by
 intro cs fr e
 obtain ⟨cs2,t,s1,s2,_⟩:=h
 rw [e] at s1
 injection s1 with s1
 injection s1 with _ s3
 exact s2 s3.symm
theorem Words.touchN {w w':World} {v:Value} {xs:List Nat} {b o n:Nat} (h:Words w v xs) (hs:NW w b) (k:Touch w w' b o n):Words w' v xs:=by
 obtain ⟨h1,h2,A,cap,h3,h4,h5⟩:=h
 refine ⟨h1,h2,A,cap,h3,h4,fun hx=>?_⟩
 obtain ⟨g,o',cs,fr,hA,hb,hc⟩:=h5 hx
 exact ⟨g,o',cs,fr,hA,by rw [k.block g (heap_some_lt hb) (by rintro rfl; exact hs _ _ hb)]; exact hb,hc⟩
theorem Words.cut {w:World} {A:Option Addr} {cap:Nat} {xs:List Nat} (h:Words w (.slice A xs.length cap) xs) (k:Nat) (hk:k≤xs.length):Words w (.slice A k cap) (xs.take k):=by
 obtain ⟨h1,h2,A',cap',h3,h4,h5⟩:=h
 injection h3 with e1 _ e3
 subst e1 e3
 have hl:(xs.take k).length=k:=by rw [List.length_take,Nat.min_eq_left hk]
 refine ⟨h1.take k,by omega,A,cap,by rw [hl],by omega,fun hx=>?_⟩
 have hne:xs≠[]:=by rintro rfl; simp at hx
 obtain ⟨b,o,cs,fr,hA,hb,hc⟩:=h5 hne
 refine ⟨b,o,cs,fr,hA,hb,fun i hi=>?_⟩
 rw [hc i (by omega),getD_in (by omega),getD_in (by omega),List.getElem_take]
theorem Words.drop {w:World} {A:Option Addr} {cap:Nat} {xs:List Nat} (h:Words w (.slice A xs.length cap) xs) (k:Nat) (hk:k<xs.length) :
  Words w (.slice (A.map (·.add k)) (xs.length-k) (cap-k)) (xs.drop k):=by
 obtain ⟨h1,h2,A',cap',h3,h4,h5⟩:=h
 injection h3 with e1 _ e3
 subst e1 e3
 have hl:(xs.drop k).length=xs.length-k:=List.length_drop
 refine ⟨h1.drop k,by omega,_,_,by rw [hl],by omega,fun hx=>?_⟩
 have hne:xs≠[]:=by rintro rfl; simp at hx
 obtain ⟨b,o,cs,fr,hA,hb,hc⟩:=h5 hne
 refine ⟨b,o+k,cs,fr,?_,hb,fun i hi=>?_⟩
 · subst hA
   simp only [Option.map_some,Addr.add]
   split
   · rename_i h0; subst h0; rfl
   · rfl
 · rw [Nat.add_assoc,hc (k+i) (by omega),getD_in (by omega),getD_in (by omega),List.getElem_drop]
theorem Words.open_ {w:World} {A:Option Addr} {n cap:Nat} {xs:List Nat} (h:Words w (.slice A n cap) xs) (hn:0<n) :
  ∃ b o,A=some ⟨b,o,none⟩∧∀ i,i<n→w.cell? ⟨b,o+i,none⟩=some (.int .u32 (xs.getD i 0:Nat)):=by
 obtain ⟨h1,h2,A',cap',h3,h4,h5⟩:=h
 injection h3 with e1 e2 e3
 subst e1 e2 e3
 obtain ⟨b,o,cs,fr,hA,hb,hc⟩:=h5 (by rintro rfl; simp at hn)
 exact ⟨b,o,hA,fun i hi=>by rw [cell_of_row w b _ cs _ fr hb]; exact hc i hi⟩
theorem Words.shape {w:World} {v:Value} {xs:List Nat} (h:Words w v xs):∃ A cap,v=.slice A xs.length cap∧xs.length≤cap:=by
 obtain ⟨_,_,A,cap,h3,h4,_⟩:=h
 exact ⟨A,cap,h3,h4⟩
theorem Words.form {w:World} {v:Value} {xs:List Nat} (h:Words w v xs):∃ A n cap,v=.slice A n cap:=by
 obtain ⟨_,_,A,cap,h3,_⟩:=h
 exact ⟨A,_,cap,h3⟩
theorem Words.len {w:World} {A:Option Addr} {n cap:Nat} {xs:List Nat} (h:Words w (.slice A n cap) xs):n=xs.length∧n≤cap:=by
 obtain ⟨_,_,A',cap',h3,h4,_⟩:=h
 injection h3 with e1 e2 e3
 exact ⟨e2,by omega⟩
theorem Words.trim_ {w:World} {A:Option Addr} {n cap:Nat} {xs:List Nat} (h:Words w (.slice A n cap) xs):Words w (.slice A (trim xs).length cap) (trim xs):=by
 obtain ⟨rfl,_⟩:=h.len
 have h2:=Words.cut h _ (trim_length_le xs)
 rw [← trim_eq_take] at h2
 exact h2
theorem Words.of_block {w:World} {b cap:Nat} {cs:Array Value} {fr:Nat × Nat} {xs:List Nat} (hb:w.heap[b]?=some (.cells cs 284 fr)) (hw:Wf xs) (hl:xs.length≤17179869184) (hcap:xs.length≤cap)
  (hc:∀ i,i<xs.length→cs[i]?=some (.int .u32 (xs.getD i 0:Nat))):Words w (.slice (some ⟨b,0,none⟩) xs.length cap) xs :=
 ⟨hw,hl,_,_,rfl,hcap,fun _=>⟨b,0,cs,fr,rfl,hb,fun i hi=>by rw [Nat.zero_add]; exact hc i hi⟩⟩
def IntAt (w:World) (b o:Nat) (n:Int):Prop :=
 Slot w b o 2∧w.cell? ⟨b,o,none⟩=some (.bool (decide (n<0)))∧∃ v,w.cell? ⟨b,o+1,none⟩=some v∧Words w v (dig n.natAbs)
theorem IntAt.slot {w:World} {b o:Nat} {n:Int} (h:IntAt w b o n):Slot w b o 2:=h.1
theorem IntAt.lt {w:World} {b o:Nat} {n:Int} (h:IntAt w b o n):b<w.heap.size:=h.1.lt
theorem IntAt.on {w w':World} {b o:Nat} {n:Int} (h:IntAt w b o n) (k:Below w.heap.size w w'):IntAt w' b o n:=by
 have hlt:=h.lt
 obtain ⟨h1,h2,v,h3,h4⟩:=h
 exact ⟨h1.on k,by rw [k.cell (p:=⟨b,o,none⟩) hlt]; exact h2,v,by rw [k.cell (p:=⟨b,o+1,none⟩) hlt]; exact h3,h4.below k⟩
theorem cell_touch {w w':World} {b o n g i:Nat} {v:Value} (k:Touch w w' b o n) (h:w.cell? ⟨g,i,none⟩=some v) (hs:∃ cs t fr,w.heap[g]?=some (.cells cs t fr)) (hd:g≠b∨i<o∨o+n≤i) :
  w'.cell? ⟨g,i,none⟩=some v:=by
 obtain ⟨cs,t,fr,hb⟩:=hs
 by_cases hg:g=b
 · subst hg
   obtain ⟨cs',k1,k2,k3⟩:=k.own cs t fr hb
   rw [cell_of_row w' g i cs' t fr k1,k3 i (by omega),← cell_of_row w g i cs t fr hb]
   exact h
 · rw [World.cell?_of_block (w:=w) (k.block g (heap_some_lt hb) hg)]
   exact h
theorem Slot.isCells {w:World} {b o n:Nat} (h:Slot w b o n):∃ cs t fr,w.heap[b]?=some (.cells cs t fr):=by
 obtain ⟨cs,t,h1,_⟩:=h
 exact ⟨cs,t,_,h1⟩
theorem IntAt.touch {w w':World} {b o n g i m:Nat} {x:Int} (h:IntAt w g i x) (hs:Slot w b o m) (k:Touch w w' b o n) (hd:g≠b∨i+2≤o∨o+n≤i):IntAt w' g i x:=by
 obtain ⟨h1,h2,v,h3,h4⟩:=h
 exact ⟨h1.touch k,cell_touch k h2 h1.isCells (by omega),v,cell_touch k h3 h1.isCells (by omega),h4.touch hs k⟩
theorem IntAt.touchN {w w':World} {b o n g i:Nat} {x:Int} (h:IntAt w g i x) (hs:NW w b) (k:Touch w w' b o n) (hd:g≠b∨i+2≤o∨o+n≤i):IntAt w' g i x:=by
 obtain ⟨h1,h2,v,h3,h4⟩:=h
 exact ⟨h1.touch k,cell_touch k h2 h1.isCells (by omega),v,cell_touch k h3 h1.isCells (by omega),h4.touchN hs k⟩
theorem IntAt.new (w:World):IntAt (w.alloc (.cells #[.bool false,.slice none 0 0] 211)) w.heap.size 0 0:=by
 have hb:=heap_alloc_new w (.cells #[.bool false,.slice none 0 0] 211)
 refine ⟨⟨_,_,hb,by decide,by simp⟩,?_,.slice none 0 0,?_,?_⟩
 · rw [cell_of_row _ _ _ _ _ _ hb]; rfl
 · rw [cell_of_row _ _ _ _ _ _ hb]; rfl
 · rw [Int.natAbs_zero,dig_zero]; exact Words.nil _
def Buf (w:World) (g:Nat) (xs:List Nat):Prop :=
 Wf xs∧∃ cs,w.heap[g]?=some (.cells cs 284 (0,0))∧cs.size=xs.length∧∀ i,i<xs.length→cs[i]?=some (.int .u32 (xs.getD i 0:Nat))
theorem Buf.lt {w:World} {g:Nat} {xs:List Nat} (h:Buf w g xs):g<w.heap.size:=by obtain ⟨_,_,h,_⟩:=h; exact heap_some_lt h
theorem Buf.cell {w:World} {g:Nat} {xs:List Nat} (h:Buf w g xs) (i:Nat) (hi:i<xs.length):w.cell? ⟨g,i,none⟩=some (.int .u32 (xs.getD i 0:Nat)):=by
 obtain ⟨_,cs,h1,_,h3⟩:=h
 rw [cell_of_row w g i cs _ _ h1]
 exact h3 i hi
theorem Buf.frozen {w:World} {g:Nat} {xs:List Nat} (h:Buf w g xs) (i:Nat):w.frozen? ⟨g,i,none⟩=false:=by
 obtain ⟨_,cs,h1,_⟩:=h
 simp [World.frozen?,h1]
theorem Buf.below {w w':World} {g B:Nat} {xs:List Nat} (h:Buf w g xs) (k:Below B w w') (hB:g<B):Buf w' g xs:=by
 obtain ⟨hw,cs,h1,h2,h3⟩:=h
 exact ⟨hw,cs,by rw [k.block g hB]; exact h1,h2,h3⟩
theorem Buf.on {w w':World} {g:Nat} {xs:List Nat} (h:Buf w g xs) (k:Below w.heap.size w w'):Buf w' g xs:=h.below k h.lt
theorem Buf.drewN {w:World} {g:Nat} {xs:List Nat} (h:Buf w g xs) (k:Nat):Buf (w.drewN k) g xs:=h
theorem getD_set (xs:List Nat) (i j x:Nat):(xs.set i x).getD j 0=if i=j∧j<xs.length then x else xs.getD j 0:=by
 simp only [List.getD,List.getElem?_set]
 by_cases h:i=j
 · subst h
   by_cases h2:i<xs.length
   · simp [h2]
   · simp [h2]
 · simp [h]
theorem Wf.set {xs:List Nat} (h:Wf xs) (i x:Nat) (hx:x<4294967296):Wf (xs.set i x):=by
 intro y hy
 rcases List.mem_or_eq_of_mem_set hy with h1 | rfl
 · exact h y h1
 · exact hx
theorem Buf.set {w:World} {g:Nat} {xs:List Nat} (h:Buf w g xs) (i x:Nat) (n:Int) (hx:x<4294967296) (hn:n=x):Buf (w.setCell ⟨g,i,none⟩ (.int .u32 n)) g (xs.set i x):=by
 obtain ⟨hw,cs,h1,h2,h3⟩:=h
 subst hn
 refine ⟨hw.set i x hx,cs.setIfInBounds i (.int .u32 (x:Int)),by simp [World.setCell,Array.getElem?_modify,h1],by simp [h2],fun j hj=>?_⟩
 rw [List.length_set] at hj
 rw [Array.getElem?_setIfInBounds,getD_set]
 by_cases hij:i=j
 · subst hij
   simp [hj,h2]
 · simp [hij]
   have:=h3 j hj
   simpa using this
theorem Buf.words {w:World} {g cap:Nat} {xs:List Nat} (h:Buf w g xs) (hl:xs.length≤17179869184) (hcap:xs.length≤cap):Words w (.slice (some ⟨g,0,none⟩) xs.length cap) xs:=by
 obtain ⟨hw,cs,h1,h2,h3⟩:=h
 exact Words.of_block h1 hw hl hcap h3
theorem set_append_zero (zs:List Nat) (x n:Nat) (h:0<n):(zs++List.replicate n 0).set zs.length x=(zs++[x])++List.replicate (n-1) 0:=by
 obtain ⟨m,rfl⟩:∃ m,n=m+1:=⟨n-1,by omega⟩
 rw [List.replicate_succ,List.set_append_right _ _ (Nat.le_refl _)]
 simp
theorem Buf.push {w:World} {g r k:Nat} {zs:List Nat} (h:Buf w g (zs++List.replicate r 0)) (hk:zs.length=k) (hr:0<r) (x:Nat) (n:Int) (hx:x<4294967296) (hn:n=x) :
  Buf (w.setCell ⟨g,k,none⟩ (.int .u32 n)) g ((zs++[x])++List.replicate (r-1) 0):=by
 have:=h.set k x n hx hn
 rw [← hk,set_append_zero zs x r hr] at this
 rw [← hk]
 exact this
theorem u32_info:(Tryz.prog.info? 284).map (fun i=>(i.zero,i.size,i.bytes))=some (some (.int .u32 0),1,4):=by kernel_rfl
theorem madeCells_word (n i:Nat) (h:i<n):(madeCells (Value.int .u32 0).cells n)[i]?=some (.int .u32 0):=by
 simp [madeCells,h,Value.cells,Nat.mod_one]
theorem run_make_words (w:World) (kl kc:IntKind) (l c:Int) (n m:Nat) (hl:l=n) (hc:c=m) (hnm:n≤m) (hm:m≤34359738368) :
  ∃ w',(Instr.makeSlice 209 (.int kl l) (.int kc c)).run Tryz.prog w=.ok (.slice (some ⟨w.heap.size,0,none⟩) n m) w'∧Buf w' w.heap.size (List.replicate m 0)∧Below w.heap.size w w'∧w'.heap.size=w.heap.size+1:=by
 obtain ⟨i0,hi,hz0,hz1,hz2⟩:=info_parts u32_info
 subst hl hc
 have hr:=run_make (P:=Tryz.prog) w 209 284 i0 (.int .u32 0) Tryz.underlying209 hi hz0 kl kc n m (by omega) (by omega) (by rw [hz2]; omega) (by omega)
 rw [hz1] at hr
 simp only [Int.toNat_natCast,Nat.mul_one] at hr
 refine ⟨_,hr,⟨Wf.zeros m,_,heap_alloc_new w _,by simp [size_madeCells],fun i hi=>?_⟩,(Below.refl _ _).alloc (Nat.le_refl _) _,by simp⟩
 rw [List.length_replicate] at hi
 rw [madeCells_word m i hi,getD_in (by simpa using hi),List.getElem_replicate]
 rfl
theorem wpList_make_words {ops:Array Oper} {rest:List Oper} {o:Oper} {a:Act} {w:World} {Q:Exit→Act→World→Prop} (hg:o.guard=none) (l c:Operand) (hop:o.op=Op.makeSlice 209 l c)
  (kl kc:IntKind) (L C:Int) (n m:Nat) (hl:a.eval l=.int kl L) (hc:a.eval c=.int kc C) (hL:L=n) (hC:C=m) (hnm:n≤m) (hm:m≤34359738368)
  (hK:∀ w',Buf w' w.heap.size (List.replicate m 0)→Below w.heap.size w w'→w'.heap.size=w.heap.size+1→wpList Tryz.prog ops Q rest (a.put o.dst (.slice (some ⟨w.heap.size,0,none⟩) n m)) w') :
  wpList Tryz.prog ops Q (o::rest) a w:=by
 refine wpList_plain hg fun K hK'=>?_
 obtain ⟨w',hrun,r1,r2,r3⟩:=run_make_words w kl kc L C n m hL hC hnm hm
 unfold Oper.wp
 simp [execOp,hop,hl,hc,hrun,Result.andThen]
 exact hK' _ _ (hK w' r1 r2 r3)
theorem cell_new0 (w:World) (x:Value) (t:TypeId):(w.alloc (.cells #[x] t)).cell? ⟨w.heap.size,0,none⟩=some x:=by
 rw [cell_of_row _ _ _ _ _ _ (heap_alloc_new w _)]
 rfl
def wv (x:Nat):Value:=.int .u32 (x:Int)
def Row (w:World) (base:Nat) (v:Value) (zs:List Nat):Prop:=Wf zs∧w.ownsRow base 284 1 v zs.length (zs.map wv)
theorem Row.nil (w:World) (base:Nat):Row w base (.slice none 0 0) []:=⟨Wf.nil,by simpa using World.ownsRow_nil w base 284 1⟩
theorem Row.alloc {w:World} {base:Nat} {v:Value} {zs:List Nat} (h:Row w base v zs) (o:Obj):Row (w.alloc o) base v zs:=⟨h.1,h.2.alloc o⟩
theorem Row.words {w:World} {base:Nat} {v:Value} {zs:List Nat} (h:Row w base v zs) (hl:zs.length≤17179869184):Words w v zs:=by
 obtain ⟨hw,hlen,h2⟩:=h
 rcases h2 with ⟨rfl,h0⟩ | ⟨g,cap,cur,rfl,_,hh,hc,_,hcs,ht⟩
 · obtain rfl:zs=[]:=List.eq_nil_of_length_eq_zero h0
   exact Words.nil w
 · refine ⟨hw,hl,_,_,rfl,hc,fun _=>⟨g,0,cur,_,rfl,hh,fun i hi=>?_⟩⟩
   have h3:(cur.toList.take (zs.length*1))[i]?=(zs.map wv)[i]?:=by rw [ht]
   rw [List.getElem?_take_of_lt (by omega),List.getElem?_map,List.getElem?_eq_getElem hi] at h3
   rw [Nat.zero_add,← Array.getElem?_toList,h3,getD_in hi]
   rfl
theorem Row.of_buf {w:World} {g n m base:Nat} (h:Buf w g (List.replicate m 0)) (hb:base≤g) (hn:n≤m) (hm:m≤34359738368):Row w base (.slice (some ⟨g,0,none⟩) n m) (List.replicate n 0):=by
 obtain ⟨_,cs,h1,h2,h3⟩:=h
 rw [List.length_replicate] at h2 h3
 refine ⟨Wf.zeros n,by simp,.inr ⟨g,m,cs,by rw [List.length_replicate],hb,h1,by rw [List.length_replicate]; exact hn,by simp only [maxLen]; omega,by omega,?_⟩⟩
 rw [List.length_replicate,Nat.mul_one]
 apply List.ext_getElem
 · simp; omega
 · intro i a b
   simp only [List.length_map,List.length_replicate] at b
   have:=h3 i (by omega)
   rw [getD_in (by rw [List.length_replicate]; omega),List.getElem_replicate] at this
   simp only [List.getElem_take,List.getElem_map,List.getElem_replicate,Array.getElem_toList]
   rw [Array.getElem?_eq_getElem (by omega)] at this
   exact Option.some.inj this
theorem wpList_append_word {ops:Array Oper} {rest:List Oper} {o:Oper} {a:Act} {w:World} {Q:Exit→Act→World→Prop} (hg:o.guard=none) (s x:Operand)
  (ho:o.op=.call { callee:=.builtin .append,args:=#[s,x],argTypes:=#[209,209] })
  (base:Nat) (v:Value) (zs:List Nat) (hs:a.eval s=v) (hown:Row w base v zs) (ad:Addr) (c:Nat) (y:Nat) (n:Int) (hx:a.eval x=.slice (some ad) 1 c) (hcell:w.cell? ad=some (.int .u32 n)) (hn:n=y)
  (hy:y<4294967296) (hlen:zs.length≤17179869184) (hbase:base≤w.heap.size)
  (hK:∀ v' w',Row w' base v' (zs++[y])→Below base w w'→wpList Tryz.prog ops Q rest (a.put o.dst v') w'):wpList Tryz.prog ops Q (o::rest) a w:=by
 obtain ⟨i0,hi,hz0,hz1,hz2⟩:=info_parts u32_info
 subst hn
 refine wpList_append_own w hg s x 209 ho base 284 i0 (.int .u32 0) 1 4 Tryz.underlying209 hi hz0 hz1 hz2 rfl (by decide) v zs.length (zs.map wv) hs hown.2 ad 1 c [wv y] hx rfl ?_ ?_ (by simp only [maxLen]; omega) (by omega) hbase ?_
 · intro j u hj
   cases j with
   | zero =>
    simp at hj
    subst hj
    simpa [Addr.add,wv] using hcell
   | succ j=>simp at hj
 · intro u hu
   simp at hu
   subst hu
   rfl
 · intro v' w' h1 h2 _
   refine hK v' w' ⟨hown.1.snoc hy,by simpa using h1⟩ ((Below.refl _ _).grown h2 hbase fun k hk=>?_)
   rcases hown.2.2 with ⟨rfl,_⟩ | ⟨g,cap,cur,rfl,hb,_⟩
   · simp [Value.ownBlock] at hk
   · simp [Value.ownBlock] at hk
     omega
def Only (g:Nat) (w w':World):Prop:=w.grownBy w' (some g)
theorem Only.refl (g:Nat) (w:World):Only g w w:=World.grownBy.refl w _
theorem Only.set {g:Nat} {a w:World} (h:Only g a w) (i:Nat) (u:Value):Only g a (w.setCell ⟨g,i,none⟩ u) :=
 ⟨h.os,h.tape,h.output,by simpa [World.setCell] using h.size,fun k hk hne=>(Below.heap_setCell w ⟨g,i,none⟩ u k (by rintro rfl; exact hne rfl)).trans (h.block k hk hne)⟩
theorem Only.below {g B:Nat} {w w':World} (h:Only g w w') (h1:B≤g) (h2:B≤w.heap.size):Below B w w':=⟨h.os,h.tape,h.output,h.size,fun k hk=>h.block k (by omega) (by intro e; injection e with e; omega)⟩
theorem Only.words {g:Nat} {w w':World} {A:Option Addr} {n cap:Nat} {xs:List Nat} (h:Words w (.slice A n cap) xs) (k:Only g w w') (hne:∀ b o,A=some ⟨b,o,none⟩→b≠g):Words w' (.slice A n cap) xs:=by
 obtain ⟨h1,h2,A',cap',h3,h4,h5⟩:=h
 injection h3 with e1 e2 e3
 subst e1 e2 e3
 refine ⟨h1,h2,_,_,rfl,h4,fun hx=>?_⟩
 obtain ⟨b,o,cs,fr,hA,hb,hc⟩:=h5 hx
 exact ⟨b,o,cs,fr,hA,by rw [k.block b (heap_some_lt hb) (by intro e; injection e with e; exact hne b o hA e)]; exact hb,hc⟩
theorem Buf.list {w:World} {g:Nat} {xs:List Nat} (h:Buf w g xs):w.heap[g]?=some (.cells (xs.map wv).toArray 284 (0,0)):=by
 obtain ⟨_,cs,h1,h2,h3⟩:=h
 have:cs=(xs.map wv).toArray:=by
  apply Array.ext_getElem?
  intro i
  rcases Nat.lt_or_ge i xs.length with hi | hi
  · rw [h3 i hi,List.getElem?_toArray,List.getElem?_map,List.getElem?_eq_getElem hi,getD_in hi]
    rfl
  · rw [Array.getElem?_eq_none (by omega),List.getElem?_toArray,List.getElem?_eq_none (by simp; omega)]
 rw [← this]
 exact h1
theorem Buf.of_list {w:World} {g:Nat} {xs:List Nat} (hw:Wf xs) (h:w.heap[g]?=some (.cells (xs.map wv).toArray 284 (0,0))):Buf w g xs:=by
 refine ⟨hw,_,h,by simp,fun i hi=>?_⟩
 rw [List.getElem?_toArray,List.getElem?_map,List.getElem?_eq_getElem hi,getD_in hi]
 rfl
theorem wpList_copy_words {ops:Array Oper} {rest:List Oper} {o:Oper} {a:Act} {w:World} {Q:Exit→Act→World→Prop} (hg:o.guard=none) (d s:Operand)
  (ho:o.op=.call { callee:=.builtin .copy,args:=#[d,s],argTypes:=#[209,209] }) (g n cap:Nat) (us:List Nat) (hd:a.eval d=.slice (some ⟨g,0,none⟩) n cap) (hu:Buf w g us) (hn:us.length=n)
  (A:Option Addr) (m c:Nat) (xs:List Nat) (hs:a.eval s=.slice A m c) (hx:Words w (.slice A m c) xs) (hm:m≤n) (B:Nat) (w0:World) (hb:Below B w0 w) (hBg:B≤g)
  (hK:∀ w',Buf w' g (xs++us.drop m)→Below B w0 w'→wpList Tryz.prog ops Q rest (a.put o.dst (.int .i64 (m:Int))) w'):wpList Tryz.prog ops Q (o::rest) a w:=by
 obtain ⟨hml,_⟩:=hx.len
 refine wpList_copy_splice hg d s 209 209 ho 284 Tryz.underlying209 (by kernel_rfl) (some ⟨g,0,none⟩) A n cap m c hd hs g 0 (us.map wv) 284 hu.list (xs.map wv) (by rw [List.length_map,← hml]; exact (Nat.min_eq_left hm).symm)
  (fun hpos=>?_) (by rw [List.length_map,List.length_map]; omega) (fun v hv=>?_) B w0 hb hBg (fun w' hw' hb'=>?_)
 · rw [List.length_map] at hpos
   obtain ⟨b,o',rfl,hc⟩:=hx.open_ (by omega)
   refine ⟨rfl,_,rfl,fun j v hj=>?_⟩
   rw [List.getElem?_map] at hj
   rcases Nat.lt_or_ge j xs.length with hjl | hjl
   · rw [List.getElem?_eq_getElem hjl] at hj
     have:=hc j (by omega)
     rw [getD_in hjl] at this
     have e:(⟨b,o',none⟩:Addr).add j=⟨b,o'+j,none⟩:=by
      simp only [Addr.add]
      split
      · rename_i h; subst h; rfl
      · rfl
     rw [e,this]
     exact hj
   · rw [List.getElem?_eq_none hjl] at hj
     cases hj
 · obtain ⟨x,_,rfl⟩:=List.mem_map.1 hv
   rfl
 · have e:splice (us.map wv) 0 (xs.map wv)=(xs++us.drop m).map wv:=by
    simp [splice,hml]
   have hw2:=hw'.out
   rw [e] at hw2
   rw [List.length_map,← hml]
   exact hK w' (Buf.of_list (hx.1.append (hu.1.drop m)) hw2) hb'
theorem words_one (w:World) (x:Nat) (n:Int) (hx:x<4294967296) (hn:n=x):Words (w.alloc (.cells #[.int .u32 n] 284)) (.slice (some ⟨w.heap.size,0,none⟩) 1 1) [x]:=by
 subst hn
 refine Words.of_block (xs:=[x]) (heap_alloc_new w _) (Wf.cons hx Wf.nil) (by simp) (by simp) (fun i hi=>?_)
 simp only [List.length_singleton] at hi
 obtain rfl:i=0:=by omega
 rfl
theorem words_two (w:World) (x y:Nat) (n m:Int) (hx:x<4294967296) (hy:y<4294967296) (hn:n=x) (hm:m=y):Words (w.alloc (.cells #[.int .u32 n,.int .u32 m] 284)) (.slice (some ⟨w.heap.size,0,none⟩) 2 2) [x,y]:=by
 subst hn hm
 refine Words.of_block (xs:=[x,y]) (heap_alloc_new w _) (Wf.cons hx (Wf.cons hy Wf.nil)) (by simp) (by simp) (fun i hi=>?_)
 simp only [List.length_cons,List.length_nil] at hi
 rcases Nat.eq_zero_or_pos i with rfl | h
 · rfl
 · obtain rfl:i=1:=by omega
   rfl
theorem Words.lt {w:World} {A:Option Addr} {n cap:Nat} {xs:List Nat} (h:Words w (.slice A n cap) xs) (hn:0<n):∀ b o,A=some ⟨b,o,none⟩→b<w.heap.size:=by
 intro b o hA
 obtain ⟨_,_,A',cap',h3,_,h5⟩:=h
 injection h3 with e1 e2 e3
 subst e1 e2 e3
 obtain ⟨b',o',cs,fr,hA',hb,_⟩:=h5 (by rintro rfl; simp at hn)
 rw [hA] at hA'
 injection hA' with hA'
 injection hA' with e1 _ _
 subst e1
 exact heap_some_lt hb
theorem Buf.only {w w':World} {g h:Nat} {xs:List Nat} (hb:Buf w g xs) (k:Only h w w') (hne:g≠h):Buf w' g xs:=by
 obtain ⟨hw,cs,h1,h2,h3⟩:=hb
 exact ⟨hw,cs,by rw [k.block g (heap_some_lt h1) (by intro e; injection e with e; exact hne e)]; exact h1,h2,h3⟩
theorem Words.under {w w':World} {A:Option Addr} {n cap B:Nat} {xs:List Nat} (h:Words w (.slice A n cap) xs) (k:Below B w w') (hB:∀ b o,A=some ⟨b,o,none⟩→b<B):Words w' (.slice A n cap) xs:=by
 obtain ⟨h1,h2,A',cap',h3,h4,h5⟩:=h
 injection h3 with e1 e2 e3
 subst e1 e2 e3
 refine ⟨h1,h2,_,_,rfl,h4,fun hx=>?_⟩
 obtain ⟨b,o,cs,fr,hA,hb,hc⟩:=h5 hx
 exact ⟨b,o,cs,fr,hA,by rw [k.block b (hB b o hA)]; exact hb,hc⟩
theorem wp_append_copy {o:Oper} {a:Act} {w:World} {K:Act→World→Prop} {Q:Exit→Act→World→Prop} (s x:Operand)
  (ho:o.op=.call { callee:=.builtin .append,args:=#[s,x],argTypes:=#[209,209] }) (hs:a.eval s=.slice none 0 0) {A:Option Addr} {n c:Nat} {xs:List Nat} (hx:a.eval x=.slice A n c) (hw:Words w (.slice A n c) xs)
  (hK:∀ v' w',Words w' v' xs→Below w.heap.size w w'→K (a.put o.dst v') w'):o.wp Tryz.prog a w K Q:=by
 obtain ⟨i0,hi,hz0,hz1,hz2⟩:=info_parts u32_info
 obtain ⟨hl,hc⟩:=hw.len
 have hsz:=hw.2.1
 by_cases h0:A=none
 · subst h0
   have hn:n=0:=by
    rcases Nat.eq_zero_or_pos n with h | h
    · exact h
    · obtain ⟨_,_,h2,_⟩:=hw.open_ h; cases h2
   subst hn
   obtain rfl:xs=[]:=List.eq_nil_of_length_eq_zero hl.symm
   have hrun:(Builtin.append_ #[209,209] o.type #[.slice none 0 0,.slice none 0 c]).run Tryz.prog w=.ok (.slice none 0 0) w:=by
    simp [Builtin.append_,run_underlying Tryz.underlying209,sizeOf,typeInfo,hi,Builtin.lenOf,Builtin.firstCells]
   unfold Oper.wp
   simp only [execOp,ho,resolve,invoke,builtin,Sem.run_bind,Sem.run_pure,Result.andThen_ok,List.map_toArray,List.map_cons,List.map_nil,hs,hx,hrun]
   exact hK _ _ (Words.nil w) (Below.refl _ _)
 · obtain ⟨ad,rfl⟩:∃ ad,A=some ad:=by
    cases A with
    | none=>exact absurd rfl h0
    | some ad=>exact ⟨ad,rfl⟩
   refine wp_append_own w s x 209 ho w.heap.size 284 i0 (.int .u32 0) 1 4 Tryz.underlying209 hi hz0 hz1 hz2 rfl (by decide) (.slice none 0 0) 0 [] hs (World.ownsRow_nil w w.heap.size 284 1) ad n c (xs.map wv) hx (by rw [List.length_map]; omega) ?_ ?_ (by simp only [maxLen]; omega) (by omega) (Nat.le_refl _) ?_
   · intro j u hj
     rw [List.getElem?_map] at hj
     rcases Nat.lt_or_ge j xs.length with hjl | hjl
     · rw [List.getElem?_eq_getElem hjl] at hj
       obtain ⟨b,o',hA,hcell⟩:=hw.open_ (by omega)
       obtain rfl:ad=⟨b,o',none⟩:=Option.some.inj hA
       have:=hcell j (by omega)
       rw [getD_in hjl] at this
       have e:(⟨b,o',none⟩:Addr).add j=⟨b,o'+j,none⟩:=by
        simp only [Addr.add]
        split
        · rename_i h; subst h; rfl
        · rfl
       rw [e,this]
       exact hj
     · rw [List.getElem?_eq_none hjl] at hj
       cases hj
   · intro u hu
     obtain ⟨x,_,rfl⟩:=List.mem_map.1 hu
     rfl
   · intro v' w' h1 h2 _
     have hr:Row w' w.heap.size v' xs:=⟨hw.1,by rw [← hl]; simpa using h1⟩
     exact hK v' w' (hr.words hsz) ((Below.refl _ _).grown h2 (Nat.le_refl _) (fun k hk=>by simp [Value.ownBlock] at hk))
end Go.Proofs.YtmfedaakeeiolaaGreat
end
