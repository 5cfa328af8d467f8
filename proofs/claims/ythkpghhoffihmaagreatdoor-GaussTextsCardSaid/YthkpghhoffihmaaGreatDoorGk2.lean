/- Mem, BigA. -/
import Derived.WalkKit
import Derived.WalkSmall
import Derived.Lib.Hide
import Derived.Deep.Draws
import Derived.Laws.CopyOwn
import Derived.Laws.AppendOwnNone
import Derived.Test.YthkpghhoffihmaaGreatDoorProg
import Derived.BigQuiet
import Derived.Deep.QuietTactic
import Derived.WalkSpells
import Derived.WalkLawsBesides
import Derived.Test.YthkpghhoffihmaaGreatDoorGk1
set_option linter.unnecessarySimpa false
set_option linter.unusedVariables false
set_option linter.unusedSimpArgs false
section
namespace Go.Proofs.YthkpghhoffihmaaGreatDoor
open Go.RowKit
theorem heap_some_lt {w:World} {b:Nat} {o:Obj} (h:w.heap[b]?=some o):b<w.heap.size:=by
 rcases Nat.lt_or_ge b w.heap.size with hlt | hge
 · exact hlt
 · rw [Array.getElem?_eq_none hge] at h; cases h
theorem Below.drewN_ {B:Nat} {a w:World} (h:Below B a w) (n:Nat):Below B a (w.drewN n):=⟨h.os,h.tape,h.output,h.size,h.block⟩
def Dr (w w':World):Prop:=∃ k,w'=w.drewN k
theorem Dr.refl (w:World):Dr w w:=⟨0,rfl⟩
theorem Dr.n {a w:World} (h:Dr a w) (k:Nat):Dr a (w.drewN k):=by
 obtain ⟨j,rfl⟩:=h
 exact ⟨j+k,World.drewN_drewN ..⟩
theorem Dr.below {w w':World} (h:Dr w w') (B:Nat):Below B w w':=by
 obtain ⟨j,rfl⟩:=h
 exact Below.drewN_ (Below.refl _ _) j
structure Touch (w w':World) (b o n:Nat):Prop where
 os:w'.os=w.os
 tape:w'.tape=w.tape
 output:w'.output=w.output
 size:w.heap.size≤w'.heap.size
 block:∀ k,k<w.heap.size→k≠b→w'.heap[k]?=w.heap[k]?
 own:∀ cs t fr,w.heap[b]?=some (.cells cs t fr)→∃ cs',w'.heap[b]?=some (.cells cs' t fr)∧cs'.size=cs.size∧∀ i,(i<o∨o+n≤i)→cs'[i]?=cs[i]?
theorem Touch.of_below {w w':World} (h:Below w.heap.size w w') (b o n:Nat):Touch w w' b o n :=
 ⟨h.os,h.tape,h.output,h.size,fun k hk _=>h.block k hk,fun cs t fr hb=>⟨cs,by rw [h.block b (heap_some_lt hb)]; exact hb,rfl,fun _ _=>rfl⟩⟩
theorem Touch.refl (w:World) (b o n:Nat):Touch w w b o n:=.of_below (Below.refl _ _) b o n
theorem Touch.trans {a b c:World} {g o n:Nat} (h:Touch a b g o n) (k:Touch b c g o n):Touch a c g o n:=by
 refine ⟨k.os.trans h.os,k.tape.trans h.tape,k.output.trans h.output,Nat.le_trans h.size k.size,fun i hi hne=>(k.block i (Nat.lt_of_lt_of_le hi h.size) hne).trans (h.block i hi hne),fun cs t fr hb=>?_⟩
 obtain ⟨cs1,h1,h2,h3⟩:=h.own cs t fr hb
 obtain ⟨cs2,k1,k2,k3⟩:=k.own cs1 t fr h1
 exact ⟨cs2,k1,k2.trans h2,fun i hi=>(k3 i hi).trans (h3 i hi)⟩
theorem Touch.mono {w w':World} {b o n o' n':Nat} (h:Touch w w' b o n) (h1:o'≤o) (h2:o+n≤o'+n'):Touch w w' b o' n' :=
 ⟨h.os,h.tape,h.output,h.size,h.block,fun cs t fr hb=>by
  obtain ⟨cs1,k1,k2,k3⟩:=h.own cs t fr hb
  exact ⟨cs1,k1,k2,fun i hi=>k3 i (by omega)⟩⟩
theorem Touch.below {w w':World} {b o n B:Nat} (h:Touch w w' b o n) (h1:B≤b) (h2:B≤w.heap.size):Below B w w' :=
 ⟨h.os,h.tape,h.output,h.size,fun k hk=>h.block k (by omega) (by omega)⟩
theorem Touch.then_below {a b c:World} {g o n:Nat} (h:Touch a b g o n) (k:Below b.heap.size b c):Touch a c g o n:=h.trans (.of_below k g o n)
theorem Touch.drew {a w:World} {g o n:Nat} (h:Touch a w g o n):Touch a w.drew g o n:=h.then_below (Below.refl _ _).drew
theorem Touch.set_ {a w:World} {g o n:Nat} (h:Touch a w g o n) (i:Nat) (hi:o≤i∧i<o+n) (u:Value):Touch a (w.setCell ⟨g,i,none⟩ u) g o n:=by
 refine h.trans ⟨rfl,rfl,rfl,by simp [World.setCell],fun k hk hne=>Below.heap_setCell w ⟨g,i,none⟩ u k hne,fun cs t fr hb=>?_⟩
 refine ⟨cs.setIfInBounds i u,by simp [World.setCell,Array.getElem?_modify,hb],by simp,fun j hj=>?_⟩
 rw [Array.getElem?_setIfInBounds_ne (by omega)]
def Slot (w:World) (b o n:Nat):Prop:=∃ cs t,w.heap[b]?=some (.cells cs t (0,0))∧t≠278∧o+n≤cs.size
theorem Slot.lt {w:World} {b o n:Nat} (h:Slot w b o n):b<w.heap.size:=by obtain ⟨_,_,h,_⟩:=h; exact heap_some_lt h
theorem Slot.below {w w':World} {b o n B:Nat} (h:Slot w b o n) (k:Below B w w') (hB:b<B):Slot w' b o n:=by
 obtain ⟨cs,t,h1,h2,h3⟩:=h
 exact ⟨cs,t,by rw [k.block b hB]; exact h1,h2,h3⟩
theorem Slot.on {w w':World} {b o n:Nat} (h:Slot w b o n) (k:Below w.heap.size w w'):Slot w' b o n:=h.below k h.lt
theorem Slot.touch {w w':World} {b o n b' o' n':Nat} (h:Slot w b o n) (k:Touch w w' b' o' n'):Slot w' b o n:=by
 have hlt:=h.lt
 obtain ⟨cs,t,h1,h2,h3⟩:=h
 by_cases hb:b=b'
 · subst hb
   obtain ⟨cs',k1,k2,_⟩:=k.own _ _ _ h1
   exact ⟨cs',t,k1,h2,by omega⟩
 · exact ⟨cs,t,by rw [k.block b hlt hb]; exact h1,h2,h3⟩
theorem Slot.part {w:World} {b o n o' n':Nat} (h:Slot w b o n) (h2:o'+n'≤o+n):Slot w b o' n':=by
 obtain ⟨cs,t,h1,h3,h4⟩:=h
 exact ⟨cs,t,h1,h3,by omega⟩
theorem Slot.frozen {w:World} {b o n:Nat} (h:Slot w b o n) (i:Nat):w.frozen? ⟨b,i,none⟩=false:=by
 obtain ⟨cs,t,h1,_,_⟩:=h
 simp [World.frozen?,h1]
theorem Slot.cell {w:World} {b o n:Nat} (h:Slot w b o n) (i:Nat) (hi:i<o+n):∃ v,w.cell? ⟨b,i,none⟩=some v:=by
 obtain ⟨cs,t,h1,_,h3⟩:=h
 have:i<cs.size:=by omega
 exact ⟨cs[i],by rw [cell_of_row w b i cs t (0,0) h1]; exact Array.getElem?_eq_getElem this⟩
theorem sub_word (x y:Nat) (hx:x<4294967296) (hy:y≤4294967296):∃ (D:Int) (z d:Nat),IntKind.u64.wrap ((x:Int)-(y:Int))=D∧D % 4294967296=(z:Int)∧bits BinOp.and IntKind.u64 (D/4294967296) 1=(d:Int)∧z<4294967296∧d≤1∧z+y=x+4294967296*d:=by
 have hw:IntKind.u64.wrap ((x:Int)-(y:Int))=((x:Int)-(y:Int)) % 18446744073709551616:=by
  simp [IntKind.wrap,IntKind.bits,IntKind.signed]
 rcases Nat.lt_or_ge x y with h | h
 · refine ⟨_,x+4294967296-y,1,rfl,?_,?_,by omega,by omega,by omega⟩
   · rw [hw]; omega
   · rw [hw,and_one_u64 _ (by omega) (by omega)]; omega
 · refine ⟨_,x-y,0,rfl,?_,?_,by omega,by omega,by omega⟩
   · rw [hw]; omega
   · rw [hw,and_one_u64 _ (by omega) (by omega)]; omega
theorem and_mask (c:Nat) (h:c<18446744073709551616):bits BinOp.and IntKind.u64 (c:Int) 4294967295=((c % 4294967296:Nat):Int):=by
 have:=bits_and_u64_nat c 4294967295 h (by omega)
 rw [show (4294967295:Nat)=2^32-1 from rfl,Nat.and_two_pow_sub_one_eq_mod] at this
 exact this
theorem sub_word2 (x y b:Nat) (hx:x<4294967296) (hy:y<4294967296) (hb:b≤1):∃ (D1 D:Int) (z d:Nat),IntKind.u64.wrap ((x:Int)-(y:Int))=D1∧IntKind.u64.wrap (D1-(b:Int))=D∧D % 4294967296=(z:Int)∧bits BinOp.and IntKind.u64 (D/4294967296) 1=(d:Int)∧z<4294967296∧d≤1∧z+(y+b)=x+4294967296*d:=by
 obtain ⟨D,z,d,h1,h2,h3,h4,h5,h6⟩:=sub_word x (y+b) hx (by omega)
 refine ⟨_,D,z,d,rfl,?_,h2,h3,h4,h5,h6⟩
 rw [← h1]
 simp only [IntKind.wrap,IntKind.bits,IntKind.signed]
 simp
 omega
def Words (w:World) (v:Value) (xs:List Nat):Prop :=
 Wf xs∧xs.length≤17179869184∧∃ A cap,v=.slice A xs.length cap∧xs.length≤cap ∧
  (xs≠[]→∃ b o cs fr,A=some ⟨b,o,none⟩∧w.heap[b]?=some (.cells cs 278 fr)∧∀ i,i<xs.length→cs[o+i]?=some (.int .u32 (xs.getD i 0:Nat)))
theorem Words.nil (w:World):Words w (.slice none 0 0) []:=⟨Wf.nil,by simp,none,0,rfl,Nat.le_refl _,fun h=>absurd rfl h⟩
theorem Words.below {w w':World} {v:Value} {xs:List Nat} (h:Words w v xs) (k:Below w.heap.size w w'):Words w' v xs:=by
 obtain ⟨h1,h2,A,cap,h3,h4,h5⟩:=h
 refine ⟨h1,h2,A,cap,h3,h4,fun hx=>?_⟩
 obtain ⟨b,o,cs,fr,hA,hb,hc⟩:=h5 hx
 exact ⟨b,o,cs,fr,hA,by rw [k.block b (heap_some_lt hb)]; exact hb,hc⟩
theorem Words.touch {w w':World} {v:Value} {xs:List Nat} {b o n m:Nat} (h:Words w v xs) (hs:Slot w b o m) (k:Touch w w' b o n):Words w' v xs:=by
 obtain ⟨h1,h2,A,cap,h3,h4,h5⟩:=h
 refine ⟨h1,h2,A,cap,h3,h4,fun hx=>?_⟩
 obtain ⟨g,o',cs,fr,hA,hb,hc⟩:=h5 hx
 obtain ⟨cs2,t,s1,s2,_⟩:=hs
 have hne:g≠b:=by
  rintro rfl
  rw [hb] at s1
  injection s1 with s1
  injection s1 with _ s3
  exact s2 s3.symm
 exact ⟨g,o',cs,fr,hA,by rw [k.block g (heap_some_lt hb) hne]; exact hb,hc⟩
def NW (w:World) (b:Nat):Prop:=∀ cs fr,w.heap[b]?≠some (.cells cs 278 fr)
theorem Slot.nw {w:World} {b o n:Nat} (h:Slot w b o n):NW w b:=by
 intro cs fr e
 obtain ⟨cs2,t,s1,s2,_⟩:=h
 rw [e] at s1
 injection s1 with s1
 injection s1 with _ s3
 exact s2 s3.symm
theorem Words.touchN {w w':World} {v:Value} {xs:List Nat} {b o n:Nat} (h:Words w v xs) (hs:NW w b) (k:Touch w w' b o n):Words w' v xs:=by
 obtain ⟨h1,h2,A,cap,h3,h4,h5⟩:=h
 refine ⟨h1,h2,A,cap,h3,h4,fun hx=>?_⟩
 obtain ⟨g,o',cs,fr,hA,hb,hc⟩:=h5 hx
 exact ⟨g,o',cs,fr,hA,by rw [k.block g (heap_some_lt hb) (by rintro rfl; exact hs _ _ hb)]; exact hb,hc⟩
theorem Words.cut {w:World} {A:Option Addr} {cap:Nat} {xs:List Nat} (h:Words w (.slice A xs.length cap) xs) (k:Nat) (hk:k≤xs.length):Words w (.slice A k cap) (xs.take k):=by
 obtain ⟨h1,h2,A',cap',h3,h4,h5⟩:=h
 injection h3 with e1 _ e3
 subst e1 e3
 have hl:(xs.take k).length=k:=by rw [List.length_take,Nat.min_eq_left hk]
 refine ⟨h1.take k,by omega,A,cap,by rw [hl],by omega,fun hx=>?_⟩
 have hne:xs≠[]:=by rintro rfl; simp at hx
 obtain ⟨b,o,cs,fr,hA,hb,hc⟩:=h5 hne
 refine ⟨b,o,cs,fr,hA,hb,fun i hi=>?_⟩
 rw [hc i (by omega),getD_in (by omega),getD_in (by omega),List.getElem_take]
theorem Words.drop {w:World} {A:Option Addr} {cap:Nat} {xs:List Nat} (h:Words w (.slice A xs.length cap) xs) (k:Nat) (hk:k<xs.length) :
  Words w (.slice (A.map (·.add k)) (xs.length-k) (cap-k)) (xs.drop k):=by
 obtain ⟨h1,h2,A',cap',h3,h4,h5⟩:=h
 injection h3 with e1 _ e3
 subst e1 e3
 have hl:(xs.drop k).length=xs.length-k:=List.length_drop
 refine ⟨h1.drop k,by omega,_,_,by rw [hl],by omega,fun hx=>?_⟩
 have hne:xs≠[]:=by rintro rfl; simp at hx
 obtain ⟨b,o,cs,fr,hA,hb,hc⟩:=h5 hne
 refine ⟨b,o+k,cs,fr,?_,hb,fun i hi=>?_⟩
 · subst hA
   simp only [Option.map_some,Addr.add]
   split
   · rename_i h0; subst h0; rfl
   · rfl
 · rw [Nat.add_assoc,hc (k+i) (by omega),getD_in (by omega),getD_in (by omega),List.getElem_drop]
theorem Words.open_ {w:World} {A:Option Addr} {n cap:Nat} {xs:List Nat} (h:Words w (.slice A n cap) xs) (hn:0<n) :
  ∃ b o,A=some ⟨b,o,none⟩∧∀ i,i<n→w.cell? ⟨b,o+i,none⟩=some (.int .u32 (xs.getD i 0:Nat)):=by
 obtain ⟨h1,h2,A',cap',h3,h4,h5⟩:=h
 injection h3 with e1 e2 e3
 subst e1 e2 e3
 obtain ⟨b,o,cs,fr,hA,hb,hc⟩:=h5 (by rintro rfl; simp at hn)
 exact ⟨b,o,hA,fun i hi=>by rw [cell_of_row w b _ cs _ fr hb]; exact hc i hi⟩
theorem Words.shape {w:World} {v:Value} {xs:List Nat} (h:Words w v xs):∃ A cap,v=.slice A xs.length cap∧xs.length≤cap:=by
 obtain ⟨_,_,A,cap,h3,h4,_⟩:=h
 exact ⟨A,cap,h3,h4⟩
theorem Words.form {w:World} {v:Value} {xs:List Nat} (h:Words w v xs):∃ A n cap,v=.slice A n cap:=by
 obtain ⟨_,_,A,cap,h3,_⟩:=h
 exact ⟨A,_,cap,h3⟩
theorem Words.len {w:World} {A:Option Addr} {n cap:Nat} {xs:List Nat} (h:Words w (.slice A n cap) xs):n=xs.length∧n≤cap:=by
 obtain ⟨_,_,A',cap',h3,h4,_⟩:=h
 injection h3 with e1 e2 e3
 exact ⟨e2,by omega⟩
theorem Words.trim_ {w:World} {A:Option Addr} {n cap:Nat} {xs:List Nat} (h:Words w (.slice A n cap) xs):Words w (.slice A (trim xs).length cap) (trim xs):=by
 obtain ⟨rfl,_⟩:=h.len
 have h2:=Words.cut h _ (trim_length_le xs)
 rw [← trim_eq_take] at h2
 exact h2
theorem Words.of_block {w:World} {b cap:Nat} {cs:Array Value} {fr:Nat × Nat} {xs:List Nat} (hb:w.heap[b]?=some (.cells cs 278 fr)) (hw:Wf xs) (hl:xs.length≤17179869184) (hcap:xs.length≤cap)
  (hc:∀ i,i<xs.length→cs[i]?=some (.int .u32 (xs.getD i 0:Nat))):Words w (.slice (some ⟨b,0,none⟩) xs.length cap) xs :=
 ⟨hw,hl,_,_,rfl,hcap,fun _=>⟨b,0,cs,fr,rfl,hb,fun i hi=>by rw [Nat.zero_add]; exact hc i hi⟩⟩
def IntAt (w:World) (b o:Nat) (n:Int):Prop :=
 Slot w b o 2∧w.cell? ⟨b,o,none⟩=some (.bool (decide (n<0)))∧∃ v,w.cell? ⟨b,o+1,none⟩=some v∧Words w v (dig n.natAbs)
theorem IntAt.slot {w:World} {b o:Nat} {n:Int} (h:IntAt w b o n):Slot w b o 2:=h.1
theorem IntAt.lt {w:World} {b o:Nat} {n:Int} (h:IntAt w b o n):b<w.heap.size:=h.1.lt
theorem IntAt.on {w w':World} {b o:Nat} {n:Int} (h:IntAt w b o n) (k:Below w.heap.size w w'):IntAt w' b o n:=by
 have hlt:=h.lt
 obtain ⟨h1,h2,v,h3,h4⟩:=h
 exact ⟨h1.on k,by rw [k.cell (p:=⟨b,o,none⟩) hlt]; exact h2,v,by rw [k.cell (p:=⟨b,o+1,none⟩) hlt]; exact h3,h4.below k⟩
theorem cell_touch {w w':World} {b o n g i:Nat} {v:Value} (k:Touch w w' b o n) (h:w.cell? ⟨g,i,none⟩=some v) (hs:∃ cs t fr,w.heap[g]?=some (.cells cs t fr)) (hd:g≠b∨i<o∨o+n≤i) :
  w'.cell? ⟨g,i,none⟩=some v:=by
 obtain ⟨cs,t,fr,hb⟩:=hs
 by_cases hg:g=b
 · subst hg
   obtain ⟨cs',k1,k2,k3⟩:=k.own cs t fr hb
   rw [cell_of_row w' g i cs' t fr k1,k3 i (by omega),← cell_of_row w g i cs t fr hb]
   exact h
 · rw [World.cell?_of_block (w:=w) (k.block g (heap_some_lt hb) hg)]
   exact h
theorem Slot.isCells {w:World} {b o n:Nat} (h:Slot w b o n):∃ cs t fr,w.heap[b]?=some (.cells cs t fr):=by
 obtain ⟨cs,t,h1,_⟩:=h
 exact ⟨cs,t,_,h1⟩
theorem IntAt.touch {w w':World} {b o n g i m:Nat} {x:Int} (h:IntAt w g i x) (hs:Slot w b o m) (k:Touch w w' b o n) (hd:g≠b∨i+2≤o∨o+n≤i):IntAt w' g i x:=by
 obtain ⟨h1,h2,v,h3,h4⟩:=h
 exact ⟨h1.touch k,cell_touch k h2 h1.isCells (by omega),v,cell_touch k h3 h1.isCells (by omega),h4.touch hs k⟩
theorem IntAt.touchN {w w':World} {b o n g i:Nat} {x:Int} (h:IntAt w g i x) (hs:NW w b) (k:Touch w w' b o n) (hd:g≠b∨i+2≤o∨o+n≤i):IntAt w' g i x:=by
 obtain ⟨h1,h2,v,h3,h4⟩:=h
 exact ⟨h1.touch k,cell_touch k h2 h1.isCells (by omega),v,cell_touch k h3 h1.isCells (by omega),h4.touchN hs k⟩
theorem IntAt.new (w:World):IntAt (w.alloc (.cells #[.bool false,.slice none 0 0] 177)) w.heap.size 0 0:=by
 have hb:=heap_alloc_new w (.cells #[.bool false,.slice none 0 0] 177)
 refine ⟨⟨_,_,hb,by decide,by simp⟩,?_,.slice none 0 0,?_,?_⟩
 · rw [cell_of_row _ _ _ _ _ _ hb]; rfl
 · rw [cell_of_row _ _ _ _ _ _ hb]; rfl
 · rw [Int.natAbs_zero,dig_zero]; exact Words.nil _
def Buf (w:World) (g:Nat) (xs:List Nat):Prop :=
 Wf xs∧∃ cs,w.heap[g]?=some (.cells cs 278 (0,0))∧cs.size=xs.length∧∀ i,i<xs.length→cs[i]?=some (.int .u32 (xs.getD i 0:Nat))
theorem Buf.lt {w:World} {g:Nat} {xs:List Nat} (h:Buf w g xs):g<w.heap.size:=by obtain ⟨_,_,h,_⟩:=h; exact heap_some_lt h
theorem Buf.cell {w:World} {g:Nat} {xs:List Nat} (h:Buf w g xs) (i:Nat) (hi:i<xs.length):w.cell? ⟨g,i,none⟩=some (.int .u32 (xs.getD i 0:Nat)):=by
 obtain ⟨_,cs,h1,_,h3⟩:=h
 rw [cell_of_row w g i cs _ _ h1]
 exact h3 i hi
theorem Buf.frozen {w:World} {g:Nat} {xs:List Nat} (h:Buf w g xs) (i:Nat):w.frozen? ⟨g,i,none⟩=false:=by
 obtain ⟨_,cs,h1,_⟩:=h
 simp [World.frozen?,h1]
theorem Buf.below {w w':World} {g B:Nat} {xs:List Nat} (h:Buf w g xs) (k:Below B w w') (hB:g<B):Buf w' g xs:=by
 obtain ⟨hw,cs,h1,h2,h3⟩:=h
 exact ⟨hw,cs,by rw [k.block g hB]; exact h1,h2,h3⟩
theorem Buf.on {w w':World} {g:Nat} {xs:List Nat} (h:Buf w g xs) (k:Below w.heap.size w w'):Buf w' g xs:=h.below k h.lt
theorem Buf.drewN {w:World} {g:Nat} {xs:List Nat} (h:Buf w g xs) (k:Nat):Buf (w.drewN k) g xs:=h
theorem getD_set (xs:List Nat) (i j x:Nat):(xs.set i x).getD j 0=if i=j∧j<xs.length then x else xs.getD j 0:=by
 simp only [List.getD,List.getElem?_set]
 by_cases h:i=j
 · subst h
   by_cases h2:i<xs.length
   · simp [h2]
   · simp [h2]
 · simp [h]
theorem Wf.set {xs:List Nat} (h:Wf xs) (i x:Nat) (hx:x<4294967296):Wf (xs.set i x):=by
 intro y hy
 rcases List.mem_or_eq_of_mem_set hy with h1 | rfl
 · exact h y h1
 · exact hx
theorem Buf.set {w:World} {g:Nat} {xs:List Nat} (h:Buf w g xs) (i x:Nat) (n:Int) (hx:x<4294967296) (hn:n=x):Buf (w.setCell ⟨g,i,none⟩ (.int .u32 n)) g (xs.set i x):=by
 obtain ⟨hw,cs,h1,h2,h3⟩:=h
 subst hn
 refine ⟨hw.set i x hx,cs.setIfInBounds i (.int .u32 (x:Int)),by simp [World.setCell,Array.getElem?_modify,h1],by simp [h2],fun j hj=>?_⟩
 rw [List.length_set] at hj
 rw [Array.getElem?_setIfInBounds,getD_set]
 by_cases hij:i=j
 · subst hij
   simp [hj,h2]
 · simp [hij]
   have:=h3 j hj
   simpa using this
theorem Buf.words {w:World} {g cap:Nat} {xs:List Nat} (h:Buf w g xs) (hl:xs.length≤17179869184) (hcap:xs.length≤cap):Words w (.slice (some ⟨g,0,none⟩) xs.length cap) xs:=by
 obtain ⟨hw,cs,h1,h2,h3⟩:=h
 exact Words.of_block h1 hw hl hcap h3
theorem set_append_zero (zs:List Nat) (x n:Nat) (h:0<n):(zs++List.replicate n 0).set zs.length x=(zs++[x])++List.replicate (n-1) 0:=by
 obtain ⟨m,rfl⟩:∃ m,n=m+1:=⟨n-1,by omega⟩
 rw [List.replicate_succ,List.set_append_right _ _ (Nat.le_refl _)]
 simp
theorem Buf.push {w:World} {g r k:Nat} {zs:List Nat} (h:Buf w g (zs++List.replicate r 0)) (hk:zs.length=k) (hr:0<r) (x:Nat) (n:Int) (hx:x<4294967296) (hn:n=x) :
  Buf (w.setCell ⟨g,k,none⟩ (.int .u32 n)) g ((zs++[x])++List.replicate (r-1) 0):=by
 have:=h.set k x n hx hn
 rw [← hk,set_append_zero zs x r hr] at this
 rw [← hk]
 exact this
theorem u32_info:(Tryz.prog.info? 278).map (fun i=>(i.zero,i.size,i.bytes))=some (some (.int .u32 0),1,4):=by kernel_rfl
theorem madeCells_word (n i:Nat) (h:i<n):(madeCells (Value.int .u32 0).cells n)[i]?=some (.int .u32 0):=by
 simp [madeCells,h,Value.cells,Nat.mod_one]
theorem run_make_words (w:World) (kl kc:IntKind) (l c:Int) (n m:Nat) (hl:l=n) (hc:c=m) (hnm:n≤m) (hm:m≤34359738368) :
  ∃ w',(Instr.makeSlice 121 (.int kl l) (.int kc c)).run Tryz.prog w=.ok (.slice (some ⟨w.heap.size,0,none⟩) n m) w'∧Buf w' w.heap.size (List.replicate m 0)∧Below w.heap.size w w'∧w'.heap.size=w.heap.size+1:=by
 obtain ⟨i0,hi,hz0,hz1,hz2⟩:=info_parts u32_info
 subst hl hc
 have hr:=run_make (P:=Tryz.prog) w 121 278 i0 (.int .u32 0) Tryz.underlying121 hi hz0 kl kc n m (by omega) (by omega) (by rw [hz2]; omega) (by omega)
 rw [hz1] at hr
 simp only [Int.toNat_natCast,Nat.mul_one] at hr
 refine ⟨_,hr,⟨Wf.zeros m,_,heap_alloc_new w _,by simp [size_madeCells],fun i hi=>?_⟩,(Below.refl _ _).alloc (Nat.le_refl _) _,by simp⟩
 rw [List.length_replicate] at hi
 rw [madeCells_word m i hi,getD_in (by simpa using hi),List.getElem_replicate]
 rfl
theorem wpList_make_words {ops:Array Oper} {rest:List Oper} {o:Oper} {a:Act} {w:World} {Q:Exit→Act→World→Prop} (hg:o.guard=none) (l c:Operand) (hop:o.op=Op.makeSlice 121 l c)
  (kl kc:IntKind) (L C:Int) (n m:Nat) (hl:a.eval l=.int kl L) (hc:a.eval c=.int kc C) (hL:L=n) (hC:C=m) (hnm:n≤m) (hm:m≤34359738368)
  (hK:∀ w',Buf w' w.heap.size (List.replicate m 0)→Below w.heap.size w w'→w'.heap.size=w.heap.size+1→wpList Tryz.prog ops Q rest (a.put o.dst (.slice (some ⟨w.heap.size,0,none⟩) n m)) w') :
  wpList Tryz.prog ops Q (o::rest) a w:=by
 refine wpList_plain hg fun K hK'=>?_
 obtain ⟨w',hrun,r1,r2,r3⟩:=run_make_words w kl kc L C n m hL hC hnm hm
 unfold Oper.wp
 simp [execOp,hop,hl,hc,hrun,Result.andThen]
 exact hK' _ _ (hK w' r1 r2 r3)
theorem cell_new0 (w:World) (x:Value) (t:TypeId):(w.alloc (.cells #[x] t)).cell? ⟨w.heap.size,0,none⟩=some x:=by
 rw [cell_of_row _ _ _ _ _ _ (heap_alloc_new w _)]
 rfl
def wv (x:Nat):Value:=.int .u32 (x:Int)
def Row (w:World) (base:Nat) (v:Value) (zs:List Nat):Prop:=Wf zs∧w.ownsRow base 278 1 v zs.length (zs.map wv)
theorem Row.nil (w:World) (base:Nat):Row w base (.slice none 0 0) []:=⟨Wf.nil,by simpa using World.ownsRow_nil w base 278 1⟩
theorem Row.alloc {w:World} {base:Nat} {v:Value} {zs:List Nat} (h:Row w base v zs) (o:Obj):Row (w.alloc o) base v zs:=⟨h.1,h.2.alloc o⟩
theorem Row.words {w:World} {base:Nat} {v:Value} {zs:List Nat} (h:Row w base v zs) (hl:zs.length≤17179869184):Words w v zs:=by
 obtain ⟨hw,hlen,h2⟩:=h
 rcases h2 with ⟨rfl,h0⟩ | ⟨g,cap,cur,rfl,_,hh,hc,_,hcs,ht⟩
 · obtain rfl:zs=[]:=List.eq_nil_of_length_eq_zero h0
   exact Words.nil w
 · refine ⟨hw,hl,_,_,rfl,hc,fun _=>⟨g,0,cur,_,rfl,hh,fun i hi=>?_⟩⟩
   have h3:(cur.toList.take (zs.length*1))[i]?=(zs.map wv)[i]?:=by rw [ht]
   rw [List.getElem?_take_of_lt (by omega),List.getElem?_map,List.getElem?_eq_getElem hi] at h3
   rw [Nat.zero_add,← Array.getElem?_toList,h3,getD_in hi]
   rfl
theorem Row.of_buf {w:World} {g n m base:Nat} (h:Buf w g (List.replicate m 0)) (hb:base≤g) (hn:n≤m) (hm:m≤34359738368):Row w base (.slice (some ⟨g,0,none⟩) n m) (List.replicate n 0):=by
 obtain ⟨_,cs,h1,h2,h3⟩:=h
 rw [List.length_replicate] at h2 h3
 refine ⟨Wf.zeros n,by simp,.inr ⟨g,m,cs,by rw [List.length_replicate],hb,h1,by rw [List.length_replicate]; exact hn,by simp only [maxLen]; omega,by omega,?_⟩⟩
 rw [List.length_replicate,Nat.mul_one]
 apply List.ext_getElem
 · simp; omega
 · intro i a b
   simp only [List.length_map,List.length_replicate] at b
   have:=h3 i (by omega)
   rw [getD_in (by rw [List.length_replicate]; omega),List.getElem_replicate] at this
   simp only [List.getElem_take,List.getElem_map,List.getElem_replicate,Array.getElem_toList]
   rw [Array.getElem?_eq_getElem (by omega)] at this
   exact Option.some.inj this
theorem wpList_append_word {ops:Array Oper} {rest:List Oper} {o:Oper} {a:Act} {w:World} {Q:Exit→Act→World→Prop} (hg:o.guard=none) (s x:Operand)
  (ho:o.op=.call { callee:=.builtin .append,args:=#[s,x],argTypes:=#[121,121] })
  (base:Nat) (v:Value) (zs:List Nat) (hs:a.eval s=v) (hown:Row w base v zs) (ad:Addr) (c:Nat) (y:Nat) (n:Int) (hx:a.eval x=.slice (some ad) 1 c) (hcell:w.cell? ad=some (.int .u32 n)) (hn:n=y)
  (hy:y<4294967296) (hlen:zs.length≤17179869184) (hbase:base≤w.heap.size)
  (hK:∀ v' w',Row w' base v' (zs++[y])→Below base w w'→wpList Tryz.prog ops Q rest (a.put o.dst v') w'):wpList Tryz.prog ops Q (o::rest) a w:=by
 obtain ⟨i0,hi,hz0,hz1,hz2⟩:=info_parts u32_info
 subst hn
 refine wpList_append_own w hg s x 121 ho base 278 i0 (.int .u32 0) 1 4 Tryz.underlying121 hi hz0 hz1 hz2 rfl (by decide) v zs.length (zs.map wv) hs hown.2 ad 1 c [wv y] hx rfl ?_ ?_ (by simp only [maxLen]; omega) (by omega) hbase ?_
 · intro j u hj
   cases j with
   | zero =>
    simp at hj
    subst hj
    simpa [Addr.add,wv] using hcell
   | succ j=>simp at hj
 · intro u hu
   simp at hu
   subst hu
   rfl
 · intro v' w' h1 h2 _
   refine hK v' w' ⟨hown.1.snoc hy,by simpa using h1⟩ ((Below.refl _ _).grown h2 hbase fun k hk=>?_)
   rcases hown.2.2 with ⟨rfl,_⟩ | ⟨g,cap,cur,rfl,hb,_⟩
   · simp [Value.ownBlock] at hk
   · simp [Value.ownBlock] at hk
     omega
def Only (g:Nat) (w w':World):Prop:=w.grownBy w' (some g)
theorem Only.refl (g:Nat) (w:World):Only g w w:=World.grownBy.refl w _
theorem Only.set {g:Nat} {a w:World} (h:Only g a w) (i:Nat) (u:Value):Only g a (w.setCell ⟨g,i,none⟩ u) :=
 ⟨h.os,h.tape,h.output,by simpa [World.setCell] using h.size,fun k hk hne=>(Below.heap_setCell w ⟨g,i,none⟩ u k (by rintro rfl; exact hne rfl)).trans (h.block k hk hne)⟩
theorem Only.below {g B:Nat} {w w':World} (h:Only g w w') (h1:B≤g) (h2:B≤w.heap.size):Below B w w':=⟨h.os,h.tape,h.output,h.size,fun k hk=>h.block k (by omega) (by intro e; injection e with e; omega)⟩
theorem Only.words {g:Nat} {w w':World} {A:Option Addr} {n cap:Nat} {xs:List Nat} (h:Words w (.slice A n cap) xs) (k:Only g w w') (hne:∀ b o,A=some ⟨b,o,none⟩→b≠g):Words w' (.slice A n cap) xs:=by
 obtain ⟨h1,h2,A',cap',h3,h4,h5⟩:=h
 injection h3 with e1 e2 e3
 subst e1 e2 e3
 refine ⟨h1,h2,_,_,rfl,h4,fun hx=>?_⟩
 obtain ⟨b,o,cs,fr,hA,hb,hc⟩:=h5 hx
 exact ⟨b,o,cs,fr,hA,by rw [k.block b (heap_some_lt hb) (by intro e; injection e with e; exact hne b o hA e)]; exact hb,hc⟩
theorem Buf.list {w:World} {g:Nat} {xs:List Nat} (h:Buf w g xs):w.heap[g]?=some (.cells (xs.map wv).toArray 278 (0,0)):=by
 obtain ⟨_,cs,h1,h2,h3⟩:=h
 have:cs=(xs.map wv).toArray:=by
  apply Array.ext_getElem?
  intro i
  rcases Nat.lt_or_ge i xs.length with hi | hi
  · rw [h3 i hi,List.getElem?_toArray,List.getElem?_map,List.getElem?_eq_getElem hi,getD_in hi]
    rfl
  · rw [Array.getElem?_eq_none (by omega),List.getElem?_toArray,List.getElem?_eq_none (by simp; omega)]
 rw [← this]
 exact h1
theorem Buf.of_list {w:World} {g:Nat} {xs:List Nat} (hw:Wf xs) (h:w.heap[g]?=some (.cells (xs.map wv).toArray 278 (0,0))):Buf w g xs:=by
 refine ⟨hw,_,h,by simp,fun i hi=>?_⟩
 rw [List.getElem?_toArray,List.getElem?_map,List.getElem?_eq_getElem hi,getD_in hi]
 rfl
theorem wpList_copy_words {ops:Array Oper} {rest:List Oper} {o:Oper} {a:Act} {w:World} {Q:Exit→Act→World→Prop} (hg:o.guard=none) (d s:Operand)
  (ho:o.op=.call { callee:=.builtin .copy,args:=#[d,s],argTypes:=#[121,121] }) (g n cap:Nat) (us:List Nat) (hd:a.eval d=.slice (some ⟨g,0,none⟩) n cap) (hu:Buf w g us) (hn:us.length=n)
  (A:Option Addr) (m c:Nat) (xs:List Nat) (hs:a.eval s=.slice A m c) (hx:Words w (.slice A m c) xs) (hm:m≤n) (B:Nat) (w0:World) (hb:Below B w0 w) (hBg:B≤g)
  (hK:∀ w',Buf w' g (xs++us.drop m)→Below B w0 w'→wpList Tryz.prog ops Q rest (a.put o.dst (.int .i64 (m:Int))) w'):wpList Tryz.prog ops Q (o::rest) a w:=by
 obtain ⟨hml,_⟩:=hx.len
 refine wpList_copy_splice hg d s 121 121 ho 278 Tryz.underlying121 (by kernel_rfl) (some ⟨g,0,none⟩) A n cap m c hd hs g 0 (us.map wv) 278 hu.list (xs.map wv) (by rw [List.length_map,← hml]; exact (Nat.min_eq_left hm).symm)
  (fun hpos=>?_) (by rw [List.length_map,List.length_map]; omega) (fun v hv=>?_) B w0 hb hBg (fun w' hw' hb'=>?_)
 · rw [List.length_map] at hpos
   obtain ⟨b,o',rfl,hc⟩:=hx.open_ (by omega)
   refine ⟨rfl,_,rfl,fun j v hj=>?_⟩
   rw [List.getElem?_map] at hj
   rcases Nat.lt_or_ge j xs.length with hjl | hjl
   · rw [List.getElem?_eq_getElem hjl] at hj
     have:=hc j (by omega)
     rw [getD_in hjl] at this
     have e:(⟨b,o',none⟩:Addr).add j=⟨b,o'+j,none⟩:=by
      simp only [Addr.add]
      split
      · rename_i h; subst h; rfl
      · rfl
     rw [e,this]
     exact hj
   · rw [List.getElem?_eq_none hjl] at hj
     cases hj
 · obtain ⟨x,_,rfl⟩:=List.mem_map.1 hv
   rfl
 · have e:splice (us.map wv) 0 (xs.map wv)=(xs++us.drop m).map wv:=by
    simp [splice,hml]
   have hw2:=hw'.out
   rw [e] at hw2
   rw [List.length_map,← hml]
   exact hK w' (Buf.of_list (hx.1.append (hu.1.drop m)) hw2) hb'
theorem words_one (w:World) (x:Nat) (n:Int) (hx:x<4294967296) (hn:n=x):Words (w.alloc (.cells #[.int .u32 n] 278)) (.slice (some ⟨w.heap.size,0,none⟩) 1 1) [x]:=by
 subst hn
 refine Words.of_block (xs:=[x]) (heap_alloc_new w _) (Wf.cons hx Wf.nil) (by simp) (by simp) (fun i hi=>?_)
 simp only [List.length_singleton] at hi
 obtain rfl:i=0:=by omega
 rfl
theorem words_two (w:World) (x y:Nat) (n m:Int) (hx:x<4294967296) (hy:y<4294967296) (hn:n=x) (hm:m=y):Words (w.alloc (.cells #[.int .u32 n,.int .u32 m] 278)) (.slice (some ⟨w.heap.size,0,none⟩) 2 2) [x,y]:=by
 subst hn hm
 refine Words.of_block (xs:=[x,y]) (heap_alloc_new w _) (Wf.cons hx (Wf.cons hy Wf.nil)) (by simp) (by simp) (fun i hi=>?_)
 simp only [List.length_cons,List.length_nil] at hi
 rcases Nat.eq_zero_or_pos i with rfl | h
 · rfl
 · obtain rfl:i=1:=by omega
   rfl
theorem Words.lt {w:World} {A:Option Addr} {n cap:Nat} {xs:List Nat} (h:Words w (.slice A n cap) xs) (hn:0<n):∀ b o,A=some ⟨b,o,none⟩→b<w.heap.size:=by
 intro b o hA
 obtain ⟨_,_,A',cap',h3,_,h5⟩:=h
 injection h3 with e1 e2 e3
 subst e1 e2 e3
 obtain ⟨b',o',cs,fr,hA',hb,_⟩:=h5 (by rintro rfl; simp at hn)
 rw [hA] at hA'
 injection hA' with hA'
 injection hA' with e1 _ _
 subst e1
 exact heap_some_lt hb
theorem Buf.only {w w':World} {g h:Nat} {xs:List Nat} (hb:Buf w g xs) (k:Only h w w') (hne:g≠h):Buf w' g xs:=by
 obtain ⟨hw,cs,h1,h2,h3⟩:=hb
 exact ⟨hw,cs,by rw [k.block g (heap_some_lt h1) (by intro e; injection e with e; exact hne e)]; exact h1,h2,h3⟩
theorem Words.under {w w':World} {A:Option Addr} {n cap B:Nat} {xs:List Nat} (h:Words w (.slice A n cap) xs) (k:Below B w w') (hB:∀ b o,A=some ⟨b,o,none⟩→b<B):Words w' (.slice A n cap) xs:=by
 obtain ⟨h1,h2,A',cap',h3,h4,h5⟩:=h
 injection h3 with e1 e2 e3
 subst e1 e2 e3
 refine ⟨h1,h2,_,_,rfl,h4,fun hx=>?_⟩
 obtain ⟨b,o,cs,fr,hA,hb,hc⟩:=h5 hx
 exact ⟨b,o,cs,fr,hA,by rw [k.block b (hB b o hA)]; exact hb,hc⟩
theorem wp_append_copy {o:Oper} {a:Act} {w:World} {K:Act→World→Prop} {Q:Exit→Act→World→Prop} (s x:Operand)
  (ho:o.op=.call { callee:=.builtin .append,args:=#[s,x],argTypes:=#[121,121] }) (hs:a.eval s=.slice none 0 0) {A:Option Addr} {n c:Nat} {xs:List Nat} (hx:a.eval x=.slice A n c) (hw:Words w (.slice A n c) xs)
  (hK:∀ v' w',Words w' v' xs→Below w.heap.size w w'→K (a.put o.dst v') w'):o.wp Tryz.prog a w K Q:=by
 obtain ⟨i0,hi,hz0,hz1,hz2⟩:=info_parts u32_info
 obtain ⟨hl,hc⟩:=hw.len
 have hsz:=hw.2.1
 by_cases h0:A=none
 · subst h0
   have hn:n=0:=by
    rcases Nat.eq_zero_or_pos n with h | h
    · exact h
    · obtain ⟨_,_,h2,_⟩:=hw.open_ h; cases h2
   subst hn
   obtain rfl:xs=[]:=List.eq_nil_of_length_eq_zero hl.symm
   have hrun:(Builtin.append_ #[121,121] o.type #[.slice none 0 0,.slice none 0 c]).run Tryz.prog w=.ok (.slice none 0 0) w:=by
    simp [Builtin.append_,run_underlying Tryz.underlying121,sizeOf,typeInfo,hi,Builtin.lenOf,Builtin.firstCells]
   unfold Oper.wp
   simp only [execOp,ho,resolve,invoke,builtin,Sem.run_bind,Sem.run_pure,Result.andThen_ok,List.map_toArray,List.map_cons,List.map_nil,hs,hx,hrun]
   exact hK _ _ (Words.nil w) (Below.refl _ _)
 · obtain ⟨ad,rfl⟩:∃ ad,A=some ad:=by
    cases A with
    | none=>exact absurd rfl h0
    | some ad=>exact ⟨ad,rfl⟩
   refine wp_append_own w s x 121 ho w.heap.size 278 i0 (.int .u32 0) 1 4 Tryz.underlying121 hi hz0 hz1 hz2 rfl (by decide) (.slice none 0 0) 0 [] hs (World.ownsRow_nil w w.heap.size 278 1) ad n c (xs.map wv) hx (by rw [List.length_map]; omega) ?_ ?_ (by simp only [maxLen]; omega) (by omega) (Nat.le_refl _) ?_
   · intro j u hj
     rw [List.getElem?_map] at hj
     rcases Nat.lt_or_ge j xs.length with hjl | hjl
     · rw [List.getElem?_eq_getElem hjl] at hj
       obtain ⟨b,o',hA,hcell⟩:=hw.open_ (by omega)
       obtain rfl:ad=⟨b,o',none⟩:=Option.some.inj hA
       have:=hcell j (by omega)
       rw [getD_in hjl] at this
       have e:(⟨b,o',none⟩:Addr).add j=⟨b,o'+j,none⟩:=by
        simp only [Addr.add]
        split
        · rename_i h; subst h; rfl
        · rfl
       rw [e,this]
       exact hj
     · rw [List.getElem?_eq_none hjl] at hj
       cases hj
   · intro u hu
     obtain ⟨x,_,rfl⟩:=List.mem_map.1 hu
     rfl
   · intro v' w' h1 h2 _
     have hr:Row w' w.heap.size v' xs:=⟨hw.1,by rw [← hl]; simpa using h1⟩
     exact hK v' w' (hr.words hsz) ((Below.refl _ _).grown h2 (Nat.le_refl _) (fun k hk=>by simp [Value.ownBlock] at hk))
end Go.Proofs.YthkpghhoffihmaaGreatDoor
end
section
namespace Go.Proofs.YthkpghhoffihmaaGreatDoor
section
open Go.RowKit
theorem trim_take_pred (xs:List Nat) (k:Nat) (hk:0<k) (hl:k≤xs.length) (h0:xs.getD (k-1) 0=0):trim (xs.take (k-1))=trim (xs.take k):=by
 obtain ⟨j,rfl⟩:∃ j,k=j+1:=⟨k-1,by omega⟩
 simp only [Nat.add_sub_cancel] at *
 rw [List.take_succ_eq_append_getElem (by omega),← getD_in (by omega),h0,trim_snoc_zero]
theorem trim_take_done (xs:List Nat) (k:Nat) (hk:0<k) (hl:k≤xs.length) (h0:xs.getD (k-1) 0≠0):(trim (xs.take k)).length=k:=by
 obtain ⟨j,rfl⟩:∃ j,k=j+1:=⟨k-1,by omega⟩
 simp only [Nat.add_sub_cancel] at *
 rw [List.take_succ_eq_append_getElem (by omega),← getD_in (by omega),trim_snoc_pos _ _ h0]
 simp; omega
theorem cut_cells (xs:List Nat) (b o n cap:Nat) (w:World) (hn:xs.length=n) (hb:n≤17179869184) (hcap:n≤cap)
  (hc:∀ i,i<n→w.cell? ⟨b,o+i,none⟩=some (.int .u32 (xs.getD i 0:Nat))) :
  Calls Tryz.prog 363 #[.slice (some ⟨b,o,none⟩) n cap] w fun e w'=>e=.returned (.slice (some ⟨b,o,none⟩) (trim xs).length cap)∧w=w':=by
 have HN:=Lib.hid hn
 clear hn
 go_enter Tryz.func363,Tryz.ntmps363
 go_wp2
 go_loop [0] (fun s=>∃ k:Nat,k≤n∧s=.slice (some ⟨b,o,none⟩) k cap∧trim (xs.take k)=trim xs) (fun s=>match s with | .slice _ k _=>k | _=>0)
 case atStart=>exact ⟨n,Nat.le_refl _,rfl,by rw [List.take_of_length_le (by rw [HN.out]; exact Nat.le_refl _)]⟩
 case round =>
  obtain ⟨k,hk,rfl,hr⟩:=hrel
  have HR:=Lib.hid hr
  clear hr
  by_cases hk0:0<k
  · have hk1:(0:Int)≤(k:Int)-1:=by omega
    have hcell:=hc (k-1) (by omega)
    go_wp2
    · have h0:(((xs[k-1]?.getD 0:Nat):Int)==0)=true:=by assumption
      have h0':xs.getD (k-1) 0=0:=by simp at h0; simpa using h0
      exact ⟨⟨k-1,by omega,rfl,by rw [trim_take_pred xs k hk0 (by rw [HN.out]; exact hk) h0',HR.out]⟩,by simp; omega⟩
    · have h0:(((xs[k-1]?.getD 0:Nat):Int)==0)=false:=by assumption
      have h0':xs.getD (k-1) 0≠0:=by simp at h0; simpa using h0
      go_ret
      refine ⟨?_,rfl⟩
      have:=trim_take_done xs k hk0 (by rw [HN.out]; exact hk) h0'
      rw [HR.out] at this
      rw [this]
      rfl
  · obtain rfl:k=0:=by omega
    go_wp2
    go_ret
    refine ⟨?_,rfl⟩
    have:=HR.out
    have hz:(trim xs).length=0:=by rw [← this]; rfl
    rw [hz]
    rfl
theorem cut_any {w:World} {A:Option Addr} {n cap:Nat} {xs:List Nat} (h:Words w (.slice A n cap) xs) :
  Calls Tryz.prog 363 #[.slice A n cap] w fun e w'=>e=.returned (.slice A (trim xs).length cap)∧w=w':=by
 obtain ⟨hl,hcap⟩:=h.len
 by_cases h0:n=0
 · subst h0
   obtain rfl:xs=[]:=List.eq_nil_of_length_eq_zero hl.symm
   clear hl h
   go_enter Tryz.func363,Tryz.ntmps363
   go_wp2
   refine wp_loop_rounds 1 ?_
   rw [rounds_succ]
   go_wp2
   go_ret
   exact ⟨rfl,rfl⟩
 · obtain ⟨b,o,rfl,hc⟩:=h.open_ (by omega)
   exact cut_cells xs b o n cap w hl.symm (by rw [hl]; exact h.2.1) hcap hc
theorem ret_i {k:IntKind} {a b:Int} (h:a=b):Ending.returned (.int k a)=.returned (.int k b):=by rw [h]
theorem under_cells (xs ys:List Nat) (b o b' o' n ca cb:Nat) (r:Int) (w:World) (hx:xs.length=n) (hy:ys.length=n) (hb:n≤17179869184) (h0:0<n) (hwx:Wf xs) (hwy:Wf ys) (hr:r=cmpN (val xs) (val ys))
  (hc:∀ i,i<n→w.cell? ⟨b,o+i,none⟩=some (.int .u32 (xs.getD i 0:Nat))) (hd:∀ i,i<n→w.cell? ⟨b',o'+i,none⟩=some (.int .u32 (ys.getD i 0:Nat))) :
  Calls Tryz.prog 335 #[.slice (some ⟨b,o,none⟩) n ca,.slice (some ⟨b',o',none⟩) n cb] w fun e w'=>e=.returned (.int .i64 r)∧Dr w w':=by
 have HX:=Lib.hid hx
 have HY:=Lib.hid hy
 have HR:=Lib.hid hr
 clear hx hy hr
 go_enter Tryz.func335,Tryz.ntmps335
 go_wp2
 go_loopw [5] (fun i wr=>∃ k:Nat,k≤n∧i=.int .i64 ((k:Int)-1)∧(∀ j,k≤j→j<n→xs.getD j 0=ys.getD j 0)∧Dr w wr) (fun i _=>(intOf i+1).toNat)
 case atStart=>exact ⟨n,Nat.le_refl _,rfl,fun j h1 h2=>by omega,Dr.refl _⟩
 case round =>
  obtain ⟨k,hk,rfl,hs,d,rfl⟩:=hrel
  have HS:=Lib.hid hs
  clear hs
  by_cases hk0:0<k
  · obtain ⟨k,rfl⟩:∃ j,k=j+1:=⟨k-1,by omega⟩
    have e1:((k+1:Nat):Int)-1=(k:Int):=by omega
    rw [e1]
    clear e1
    have hk1:(0:Int)≤(k:Int):=by omega
    have hk2:(k:Int)<(n:Int):=by omega
    have hcell:=hc k (by omega)
    have hcell':=hd k (by omega)
    go_wp2
    go_quiet (fail)
    go_wp2
    · have h1:(xs[k]?.getD 0)<(ys[k]?.getD 0):=by assumption
      go_ret
      refine ⟨ret_i ?_,by repeat (first | exact ⟨_,rfl⟩ | refine Dr.n ?_ _)⟩
      have h2:=val_lt_of xs ys k hwx (by rw [HX.out,HY.out]) (by rw [HX.out]; omega) (by simpa using h1) (fun j h3 h4=>HS.out j (by omega) (by rw [HX.out] at h4; exact h4))
      rw [HR.out,cmpN,if_pos h2]
    · go_quiet (fail)
      go_wp2
      · have h1:(ys[k]?.getD 0)<(xs[k]?.getD 0):=by assumption
        go_ret
        refine ⟨ret_i ?_,by repeat (first | exact ⟨_,rfl⟩ | refine Dr.n ?_ _)⟩
        have h2:=val_lt_of ys xs k hwy (by rw [HX.out,HY.out]) (by rw [HY.out]; omega) (by simpa using h1) (fun j h3 h4=>(HS.out j (by omega) (by rw [HY.out] at h4; exact h4)).symm)
        rw [HR.out,cmpN,if_neg (by omega),if_pos h2]
      · have h1:(ys[k]?.getD 0)≤(xs[k]?.getD 0):=Nat.le_of_not_lt (by assumption)
        have h2:(xs[k]?.getD 0)≤(ys[k]?.getD 0):=Nat.le_of_not_lt (by assumption)
        go_roundw
        case rel =>
         refine ⟨k,by omega,rfl,fun j h3 h4=>?_,by repeat (first | exact ⟨_,rfl⟩ | refine Dr.n ?_ _)⟩
         rcases Nat.eq_or_lt_of_le h3 with rfl | h5
         · simpa using Nat.le_antisymm h2 h1
         · exact HS.out j (by omega) h4
        case measure=>simp [intOf]
  · obtain rfl:k=0:=by omega
    go_wp2
    go_ret
    refine ⟨ret_i ?_,_,rfl⟩
    have:xs=ys:=val_eq_of_same xs ys (by rw [HX.out,HY.out]) (fun i hi=>HS.out i (by omega) (by rw [HX.out] at hi; exact hi))
    rw [HR.out,this]
    simp [cmpN]
theorem under_any {w:World} {A B:Option Addr} {la ca lb cb n m:Nat} (hx:Words w (.slice A la ca) (dig n)) (hy:Words w (.slice B lb cb) (dig m)) :
  Calls Tryz.prog 335 #[.slice A la ca,.slice B lb cb] w fun e w'=>e=.returned (.int .i64 (cmpN n m))∧Dr w w':=by
 have hla:=hx.len.1
 have hlb:=hy.len.1
 have hsz:=hx.2.1
 have hsz2:=hy.2.1
 rcases Nat.lt_trichotomy la lb with h | h | h
 · have hc:cmpN n m = -1:=by rw [cmpN,if_pos (dig_len_lt n m (by omega))]
   rw [hc]
   rw [← hla] at hsz
   rw [← hlb] at hsz2
   clear hx hy hc hla hlb
   go_enter Tryz.func335,Tryz.ntmps335
   go_wp2
   go_ret
   exact ⟨rfl,Dr.refl _⟩
 · subst h
   by_cases h0:la=0
   · subst h0
     have e1:=(dig_nil_iff n).1 (List.eq_nil_of_length_eq_zero hla.symm)
     have e2:=(dig_nil_iff m).1 (List.eq_nil_of_length_eq_zero hlb.symm)
     have hc:cmpN n m=0:=by rw [e1,e2]; rfl
     rw [hc]
     clear hx hy hc hla hlb hsz hsz2 e1 e2
     go_enter Tryz.func335,Tryz.ntmps335
     go_wp2
     refine wp_loop_rounds 1 ?_
     rw [rounds_succ]
     go_wp2
     go_ret
     exact ⟨rfl,Dr.refl _⟩
   · obtain ⟨b,o,rfl,hc⟩:=hx.open_ (by omega)
     obtain ⟨b',o',rfl,hd⟩:=hy.open_ (by omega)
     exact under_cells (dig n) (dig m) b o b' o' la ca cb _ w hla.symm hlb.symm (by omega) (by omega) (Wf_dig n) (Wf_dig m) (by rw [val_dig,val_dig]) hc hd
 · have hc:cmpN n m=1:=by have:=dig_len_lt m n (by omega); rw [cmpN,if_neg (by omega),if_pos this]
   rw [hc]
   rw [← hla] at hsz
   rw [← hlb] at hsz2
   clear hx hy hc hla hlb
   go_enter Tryz.func335,Tryz.ntmps335
   go_wp2
   go_ret
   exact ⟨rfl,Dr.refl _⟩
end
section
open Go.RowKit
theorem more_core (A B:Option Addr) (la ca lb cb:Nat) (xs ys:List Nat) (v0 v1:Value) (w:World) (hx:Words w (.slice A la ca) xs) (hy:Words w (.slice B lb cb) ys) (hsz:la≤8589934592)
  (hv:(v0=.slice A la ca∧v1=.slice B lb cb∧lb≤la)∨(v1=.slice A la ca∧v0=.slice B lb cb∧lb<la)) :
  Calls Tryz.prog 361 #[v0,v1] w fun e w'=>∃ v zs,e=.returned v∧Words w' v zs∧val zs=val xs+val ys∧Below w.heap.size w w':=by
 have hla:=Lib.hid hx.len.1
 have hlb:=Lib.hid hy.len.1
 have HA:=Lib.hid hx
 have HB:=Lib.hid hy
 have hwx:=Lib.hid hx.1
 have hwy:=Lib.hid hy.1
 clear hx hy
 rcases hv with ⟨rfl,rfl,hle⟩ | ⟨rfl,rfl,hle⟩
 all_goals
  go_enter Tryz.func361,Tryz.ntmps361
  go_wp2_with (at_make; refine wpList_make_words rfl _ _ rfl _ _ _ _ (la+1) (la+1) rfl rfl (by omega) (by omega) (Nat.le_refl _) (by omega) ?_)
  intro w1 hbuf hb1 hz1
  have HZ:=Lib.hid hz1
  clear hz1
  go_wp2
  go_loopw [6,22] (fun c i wr=>∃ (k d:Nat) (zs:List Nat),k≤la∧d≤1∧c=.int .u64 (d:Int)∧i=.int .i64 (k:Int)∧Hid (zs.length=k)∧Hid (val zs+4294967296^k*d=val (xs.take k)+val (ys.take k))∧Buf wr w.heap.size (zs++List.replicate (la+1-k) 0)∧Below w.heap.size w wr) (fun _ i _=>la-(intOf i).toNat)
  case atStart=>exact ⟨0,0,[],by omega,by omega,rfl,rfl,rfl,by simp [Hid,val],by simpa using hbuf,hb1⟩
  case round =>
   obtain ⟨k,d,zs,hk,hd,rfl,rfl,HK,HV,hbuf',hb'⟩:=hrel
   have hlt:=hb'.size
   have hblt:=hbuf'.lt
   clear hbuf hb1 HZ
   by_cases hk1:k<la
   · have hX:=(HA.out.below hb')
     obtain ⟨b,o,rfl,hcx⟩:=hX.open_ (by omega)
     have hcx:=hcx k hk1
     have hxl:((xs[k]?.getD 0:Nat):Int)<4294967296:=by have:=hwx.out.get? k; omega
     have hst:=hbuf'.cell k (by rw [List.length_append,HK.out,List.length_replicate]; omega)
     have hfz:=hbuf'.frozen k
     have HBUF:=Lib.hid hbuf'
     clear hX hbuf'
     by_cases hk2:k<lb
     · have hY:=(HB.out.below hb')
       obtain ⟨b2,o2,rfl,hcy⟩:=hY.open_ (by omega)
       have hcy:=hcy k hk2
       have hyl:((ys[k]?.getD 0:Nat):Int)<4294967296:=by have:=hwy.out.get? k; omega
       clear hY
       go_wp2
       go_roundw
       case rel =>
        refine ⟨k+1,(d+xs.getD k 0+ys.getD k 0)/4294967296,zs++[(d+xs.getD k 0+ys.getD k 0) % 4294967296],by omega,by simp only [List.getD]; omega,?_,rfl,?_,more_val _ _ _ _ _ _ HK.out HV.out rfl,?_,hb'.setCell (Nat.le_refl _) _⟩
        · simp only [List.getD]; go_num
        · rw [Hid,List.length_append,HK.out]; rfl
        · have:=HBUF.out.push HK.out (by omega) ((d+xs.getD k 0+ys.getD k 0) % 4294967296) _ (by omega) (by simp only [List.getD]; try go_num)
          rw [show la+1-k-1=la+1-(k+1) from by omega] at this
          exact this
       case measure=>simp [intOf]; omega
     · have hy0:ys.getD k 0=0:=getD_out (by have:=hlb.out; omega)
       have HY0:=Lib.hid hy0
       clear hy0
       go_wp2
       go_roundw
       case rel =>
        refine ⟨k+1,(d+xs.getD k 0+ys.getD k 0)/4294967296,zs++[(d+xs.getD k 0+ys.getD k 0) % 4294967296],by omega,by rw [HY0.out]; simp only [List.getD]; omega,?_,rfl,?_,more_val _ _ _ _ _ _ HK.out HV.out rfl,?_,hb'.setCell (Nat.le_refl _) _⟩
        · rw [HY0.out]; simp only [List.getD]; go_num
        · rw [Hid,List.length_append,HK.out]; rfl
        · have:=HBUF.out.push HK.out (by omega) ((d+xs.getD k 0+ys.getD k 0) % 4294967296) _ (by omega) (by rw [HY0.out]; try (simp only [List.getD]; try go_num))
          rw [show la+1-k-1=la+1-(k+1) from by omega] at this
          exact this
       case measure=>simp [intOf]; omega
   · obtain rfl:k=la:=by omega
     have hst:=hbuf'.cell k (by rw [List.length_append,HK.out,List.length_replicate]; omega)
     have hfz:=hbuf'.frozen k
     have HBUF:=Lib.hid hbuf'
     clear hbuf'
     go_wp2
     go_ret
     have hpush:=HBUF.out.push HK.out (by omega) d _ (by omega) (by go_num)
     rw [show k+1-k-1=0 from by omega,List.replicate_zero,List.append_nil] at hpush
     have hlen:(zs++[d]).length=k+1:=by rw [List.length_append,HK.out]; rfl
     have hw:=hpush.words (cap:=k+1) (by rw [hlen]; omega) (by rw [hlen]; exact Nat.le_refl _)
     rw [hlen] at hw
     refine ⟨_,_,rfl,hw,?_,hb'.setCell (Nat.le_refl _) _⟩
     have h1:=HV.out
     rw [val_snoc,HK.out,h1,val_take_all _ _ (by rw [hla.out]; exact Nat.le_refl _),val_take_all _ _ (by rw [← hlb.out]; omega)]
theorem more_any {A B:Option Addr} {la ca lb cb:Nat} {xs ys:List Nat} {w:World} (hx:Words w (.slice A la ca) xs) (hy:Words w (.slice B lb cb) ys) (h1:la≤8589934592) (h2:lb≤8589934592) :
  Calls Tryz.prog 361 #[.slice A la ca,.slice B lb cb] w fun e w'=>∃ v zs,e=.returned v∧Words w' v zs∧val zs=val xs+val ys∧Below w.heap.size w w':=by
 rcases Nat.lt_or_ge la lb with h | h
 · refine (more_core B A lb cb la ca ys xs _ _ w hy hx h2 (.inr ⟨rfl,rfl,h⟩)).mono fun e w' ⟨v,zs,r1,r2,r3,r4⟩=>⟨v,zs,r1,r2,by omega,r4⟩
 · exact more_core A B la ca lb cb xs ys _ _ w hx hy h1 (.inl ⟨rfl,rfl,h⟩)
theorem less_any {A B:Option Addr} {la ca lb cb:Nat} {xs ys:List Nat} {w:World} (hx:Words w (.slice A la ca) xs) (hy:Words w (.slice B lb cb) ys) (hsz:la≤8589934592) (hle:val ys≤val xs) (hlen:lb≤la) :
  Calls Tryz.prog 362 #[.slice A la ca,.slice B lb cb] w fun e w'=>∃ v zs,e=.returned v∧Words w' v zs∧val zs=val xs-val ys∧Below w.heap.size w w':=by
 have hla:=Lib.hid hx.len.1
 have hlb:=Lib.hid hy.len.1
 have HA:=Lib.hid hx
 have HB:=Lib.hid hy
 have hwx:=Lib.hid hx.1
 have hwy:=Lib.hid hy.1
 have HL:=Lib.hid hle
 clear hx hy hle
 go_enter Tryz.func362,Tryz.ntmps362
 go_wp2_with (at_make; refine wpList_make_words rfl _ _ rfl _ _ _ _ la la rfl rfl rfl rfl (Nat.le_refl _) (by omega) ?_)
 intro w1 hbuf hb1 hz1
 have HZ:=Lib.hid hz1
 clear hz1
 go_wp2
 go_loopw [6,16] (fun c i wr=>∃ (k d:Nat) (zs:List Nat),k≤la∧d≤1∧c=.int .u64 (d:Int)∧i=.int .i64 (k:Int)∧Hid (zs.length=k)∧Hid (val zs+val (ys.take k)=val (xs.take k)+4294967296^k*d)∧Buf wr w.heap.size (zs++List.replicate (la-k) 0)∧Below w.heap.size w wr) (fun _ i _=>la-(intOf i).toNat)
 case atStart=>exact ⟨0,0,[],by omega,by omega,rfl,rfl,rfl,by simp [Hid,val],by simpa using hbuf,hb1⟩
 case round =>
  obtain ⟨k,d,zs,hk,hd,rfl,rfl,HK,HV,hbuf',hb'⟩:=hrel
  have hlt:=hb'.size
  have hblt:=hbuf'.lt
  clear hbuf hb1 HZ
  by_cases hk1:k<la
  · have hX:=(HA.out.below hb')
    obtain ⟨b,o,rfl,hcx⟩:=hX.open_ (by omega)
    have hcx:=hcx k hk1
    have hxl:=hwx.out.get? k
    have hst:=hbuf'.cell k (by rw [List.length_append,HK.out,List.length_replicate]; omega)
    have hfz:=hbuf'.frozen k
    have HBUF:=Lib.hid hbuf'
    clear hX hbuf'
    by_cases hk2:k<lb
    · have hY:=(HB.out.below hb')
      obtain ⟨b2,o2,rfl,hcy⟩:=hY.open_ (by omega)
      have hcy:=hcy k hk2
      have hyl:=hwy.out.get? k
      obtain ⟨D,z,d',hD,hDz,hDd,hz,hd',he⟩:=sub_word (xs[k]?.getD 0) (d+ys[k]?.getD 0) hxl (by omega)
      have HE:=Lib.hid he
      clear hY he
      rw [Int.natCast_add] at hD
      go_wp2
      go_roundw
      case rel =>
       refine ⟨k+1,d',zs++[z],by omega,hd',rfl,rfl,?_,less_val _ _ _ _ _ _ _ HK.out HV.out (by simpa only [List.getD] using HE.out),?_,hb'.setCell (Nat.le_refl _) _⟩
       · rw [Hid,List.length_append,HK.out]; rfl
       · have:=HBUF.out.push HK.out (by omega) z _ (by omega) rfl
         rw [show la-k-1=la-(k+1) from by omega] at this
         exact this
      case measure=>simp [intOf]; omega
    · have hy0:ys.getD k 0=0:=getD_out (by have:=hlb.out; omega)
      have HY0:=Lib.hid hy0
      obtain ⟨D,z,d',hD,hDz,hDd,hz,hd',he⟩:=sub_word (xs[k]?.getD 0) d hxl (by omega)
      have HE:=Lib.hid he
      clear hy0 he
      go_wp2
      go_roundw
      case rel =>
       refine ⟨k+1,d',zs++[z],by omega,hd',rfl,rfl,?_,less_val _ _ _ _ _ _ _ HK.out HV.out (by rw [HY0.out,Nat.add_zero]; simpa only [List.getD] using HE.out),?_,hb'.setCell (Nat.le_refl _) _⟩
       · rw [Hid,List.length_append,HK.out]; rfl
       · have:=HBUF.out.push HK.out (by omega) z _ (by omega) rfl
         rw [show la-k-1=la-(k+1) from by omega] at this
         exact this
      case measure=>simp [intOf]; omega
  · obtain rfl:k=la:=by omega
    rw [Nat.sub_self,List.replicate_zero,List.append_nil] at hbuf'
    have hw:=hbuf'.words (cap:=k) (by rw [HK.out]; omega) (by rw [HK.out]; exact Nat.le_refl _)
    have hzw:=hbuf'.1
    rw [HK.out] at hw
    have HW:=Lib.hid hw
    clear hw hbuf'
    go_wp2
    go_ret
    refine ⟨_,_,rfl,HW.out,less_end xs ys zs k d hzw HK.out ?_ HL.out hd,hb'⟩
    have h1:=HV.out
    rw [val_take_all ys _ (by rw [← hlb.out]; omega),val_take_all xs _ (by rw [hla.out]; exact Nat.le_refl _)] at h1
    exact h1
end
section
open Go.RowKit
set_option maxHeartbeats 1000000 in
theorem product_any {A B:Option Addr} {la ca lb cb:Nat} {xs ys:List Nat} {w:World} (hx:Words w (.slice A la ca) xs) (hy:Words w (.slice B lb cb) ys) (h1:la≤8589934592) (h2:lb≤8589934592) :
  Calls Tryz.prog 336 #[.slice A la ca,.slice B lb cb] w fun e w'=>∃ v zs,e=.returned v∧Words w' v zs∧val zs=val xs*val ys∧Below w.heap.size w w':=by
 have hla:=Lib.hid hx.len.1
 have hlb:=Lib.hid hy.len.1
 have HA:=Lib.hid hx
 have HB:=Lib.hid hy
 have hwx:=Lib.hid hx.1
 have hwy:=Lib.hid hy.1
 clear hx hy
 go_enter Tryz.func336,Tryz.ntmps336
 go_wp2_with (at_make; refine wpList_make_words rfl _ _ rfl _ _ _ _ (la+lb) (la+lb) rfl rfl (by omega) (by omega) (Nat.le_refl _) (by omega) ?_)
 intro w1 hbuf hb1 hz1
 have HZ:=Lib.hid hz1
 clear hz1
 go_wp2
 go_loopw [19] (fun i wr=>∃ (k:Nat) (os:List Nat),k≤la∧i=.int .i64 (k:Int)∧Hid (os.length=la+lb)∧Hid (val os=val (xs.take k)*val ys)∧Hid (∀ j,k+lb≤j→os.getD j 0=0)∧Buf wr w.heap.size os∧Below w.heap.size w wr) (fun i _=>la-(intOf i).toNat)
 case atStart=>exact ⟨0,List.replicate (la+lb) 0,by omega,rfl,by simp [Hid],by simp [Hid,val,val_zeros],fun j _=>by simp [List.getD,List.getElem?_replicate]; split<;>rfl,hbuf,hb1⟩
 case round =>
  obtain ⟨i,os,hi,rfl,HK,HV,H0,hbuf',hb'⟩:=hrel
  obtain ⟨wo,rfl⟩:∃ wo:World,wo=wr:=⟨_,rfl⟩
  clear hbuf hb1 HZ
  by_cases hk1:i<la
  · have hX:=(HA.out.below hb')
    obtain ⟨b,o,rfl,hcx⟩:=hX.open_ (by omega)
    have hcx:=hcx i hk1
    have hxl:=hwx.out.get? i
    have HBUF:=Lib.hid hbuf'
    clear hX hbuf'
    go_wp2
    go_loopw [8,26] (fun c j wr=>∃ (k d:Nat) (os':List Nat),k≤lb∧d<4294967296∧c=.int .u64 (d:Int)∧j=.int .i64 (k:Int)∧Hid (os'.length=la+lb)∧Hid (val os'+4294967296^(i+k)*d=val os+4294967296^i*(xs.getD i 0*val (ys.take k)))∧Hid (∀ j,i+lb≤j→os'.getD j 0=0)∧Buf wr w.heap.size os'∧Below w.heap.size w wr) (fun _ j _=>lb-(intOf j).toNat)
    case atStart=>exact ⟨0,0,os,by omega,by omega,rfl,rfl,HK,by simp [Hid,val],H0,HBUF.out,hb'⟩
    case round =>
     obtain ⟨k,d,os',hk,hd,rfl,rfl,HK',HV',H0',hbuf2,hb2⟩:=hrel
     have hlt:=hb2.size
     have hblt:=hbuf2.lt
     clear hb' hcx
     by_cases hk2:k<lb
     · have hY:=(HB.out.below hb2)
       obtain ⟨b2,o2,rfl,hcy⟩:=hY.open_ (by omega)
       have hcy:=hcy k hk2
       have hyl:=hwy.out.get? k
       have hst:=hbuf2.cell (i+k) (by rw [HK'.out]; omega)
       have hfz:=hbuf2.frozen (i+k)
       have hol:=hbuf2.1.get? (i+k)
       obtain ⟨m,hm⟩:∃ m,m=xs[i]?.getD 0*ys[k]?.getD 0:=⟨_,rfl⟩
       have hmb:m≤18446744065119617025:=by rw [hm]; exact mul_word _ _ hxl hyl
       have hmi:((xs[i]?.getD 0:Nat):Int)*((ys[k]?.getD 0:Nat):Int)=(m:Int):=by rw [hm]; exact (Int.natCast_mul _ _).symm
       have HM:=Lib.hid hm
       have HBUF2:=Lib.hid hbuf2
       clear hY hbuf2 hm HBUF
       go_wp2
       go_roundw
       case rel =>
        refine ⟨k+1,(d+(m+os'.getD (i+k) 0))/4294967296,os'.set (i+k) ((d+(m+os'.getD (i+k) 0)) % 4294967296),by omega,by simp only [List.getD]; omega,by simp only [List.getD]; go_num,rfl,?_,?_,?_,?_,hb2.setCell (Nat.le_refl _) _⟩
        · rw [Hid,List.length_set]; exact HK'.out
        · exact prod_val os os' ys i k d (xs.getD i 0) _ (by rw [HK'.out]; omega) HV'.out (by rw [HM.out]; rfl)
        · intro j hj
          rw [getD_set,if_neg (by omega)]
          exact H0'.out j hj
        · exact HBUF2.out.set (i+k) _ _ (by omega) (by simp only [List.getD]; go_num)
       case measure=>simp [intOf]; omega
     · obtain rfl:k=lb:=by omega
       have hst:=hbuf2.cell (i+k) (by rw [HK'.out]; omega)
       have hfz:=hbuf2.frozen (i+k)
       have HBUF2:=Lib.hid hbuf2
       clear hbuf2 HBUF
       go_wp2
       go_roundw
       case rel =>
        refine ⟨i+1,os'.set (i+k) d,by omega,rfl,?_,?_,?_,HBUF2.out.set (i+k) d _ hd (by go_num),hb2.setCell (Nat.le_refl _) _⟩
        · rw [Hid,List.length_set]; exact HK'.out
        · have h1:=HV'.out
          rw [val_take_all ys k (by rw [hlb.out]; exact Nat.le_refl _)] at h1
          have hl:=hlb.out
          have h2:=H0'.out (i+k) (Nat.le_refl _)
          rw [hl] at h1 h2 ⊢
          exact prod_end os os' xs ys i d (by rw [HK'.out]; omega) h2 HV.out h1
        · intro j hj
          rw [getD_set]
          split
          · omega
          · exact H0'.out j (by omega)
       case measure=>simp [intOf]; omega
  · obtain rfl:i=la:=by omega
    have hw:=hbuf'.words (cap:=i+lb) (by rw [HK.out]; omega) (by rw [HK.out]; exact Nat.le_refl _)
    rw [HK.out] at hw
    have HW:=Lib.hid hw
    clear hw hbuf'
    go_wp2
    go_ret
    refine ⟨_,_,rfl,HW.out,?_,hb'⟩
    rw [HV.out,val_take_all xs _ (by rw [hla.out]; exact Nat.le_refl _)]
end
section
open Go.RowKit
theorem left_any {A:Option Addr} {la ca:Nat} {xs:List Nat} {w:World} (hx:Words w (.slice A la ca) xs) (h1:la≤8589934592) (n:Nat) (hn:n≤137438953472) :
  Calls Tryz.prog 375 #[.slice A la ca,.int .i64 (n:Int)] w fun e w'=>∃ v,e=.returned v∧Words w' v (dig (val xs*2^n))∧Below w.heap.size w w':=by
 have hla:=Lib.hid hx.len.1
 have HA:=Lib.hid hx
 have hwx:=Lib.hid hx.1
 clear hx
 obtain ⟨s,hs⟩:∃ s,s=n % 32:=⟨_,rfl⟩
 have hs32:s<32:=by omega
 have hsi:(n:Int) % 32=(s:Int):=by omega
 have HS:=Lib.hid hs
 clear hs
 go_enter Tryz.func375,Tryz.ntmps375
 go_wp2_with (at_make; refine wpList_make_words rfl _ _ rfl _ _ _ _ (n/32) (n/32+la+1) rfl rfl (by omega) (by omega) (by omega) (by omega) ?_)
 intro w1 hbuf hb1 hz1
 have HROW:=Lib.hid (Row.of_buf (n:=n/32) hbuf (Nat.le_refl _) (by omega) (by omega))
 have HZ:=Lib.hid hz1
 clear hz1 hbuf
 go_wp2
 go_loopw [5,6,20] (fun v c i wr=>∃ (k d:Nat) (ys:List Nat),k≤la∧Hid (d<2^s)∧c=.int .u64 (d:Int)∧i=.int .i64 (k:Int)∧Hid (ys.length=k)∧Hid (val ys+4294967296^k*d=val (xs.take k)*2^s)∧Hid (Row wr w.heap.size v (List.replicate (n/32) 0++ys))∧Below w.heap.size w wr) (fun _ _ i _=>la-(intOf i).toNat)
 case atStart=>exact ⟨0,0,[],by omega,Nat.two_pow_pos _,rfl,rfl,rfl,by simp [Hid,val],by simpa [Hid] using HROW.out,hb1⟩
 case round =>
  obtain ⟨k,d,ys,hk,HD,rfl,rfl,HK,HV,hrow',hb'⟩:=hrel
  have hlt:=hb'.size
  clear HROW hb1 HZ
  by_cases hk1:k<la
  · have hX:=(HA.out.below hb')
    obtain ⟨b,o,rfl,hcx⟩:=hX.open_ (by omega)
    have hcx:=hcx k hk1
    have hxl:=hwx.out.get? k
    obtain ⟨m,hm⟩:∃ m,m=xs[k]?.getD 0*2^s:=⟨_,rfl⟩
    have hmi:((xs[k]?.getD 0:Nat):Int)*2^s=(m:Int):=by rw [hm,Int.natCast_mul,Int.natCast_pow]; rfl
    have hmb:=mul_two_pow_lt (xs[k]?.getD 0) s hxl (by omega)
    rw [← hm] at hmb
    have hsp:2^s≤2^32:=Nat.pow_le_pow_right (by omega) (by omega)
    have hp:=Nat.two_pow_pos s
    have hd1:=HD.out
    have hm1:m≤18446744073709551615:=by omega
    have hd2:d≤4294967296:=by omega
    have hor:bits BinOp.or IntKind.u64 (d:Int) (m:Int)=((d+m:Nat):Int):=by rw [bits_or_u64_nat d m (by omega) (by omega),hm,or_add _ _ _ hd1]
    rw [Int.natCast_add] at hor
    have hsum:d+m≤18446744073709551615:=by omega
    have HM:=Lib.hid hm
    clear hX hm hmb hsp hp hd1
    go_wp2_with (at_builtin; refine wpList_append_word rfl (.tmp 31) (.tmp 34) rfl w.heap.size _ (List.replicate (n/32) 0++ys) rfl (hrow'.out.alloc _) ⟨wr.heap.size,0,none⟩ 1 ((d+m) % 4294967296) _ rfl (cell_new0 _ _ _) ?_ (by omega) ?_ ?_ ?_)
    · omega
    · simp only [List.length_append,List.length_replicate,HK.out]; omega
    · simp; omega
    · intro v' w' hrow2 hb2
      have HR2:=Lib.hid hrow2
      have hb3:Below w.heap.size w w':=(hb'.alloc (by omega) _).trans hb2
      clear hrow2 hb2 hb'
      go_wp2
      go_roundw
      case rel =>
       refine ⟨k+1,(d+m)/4294967296,ys++[(d+m) % 4294967296],by omega,?_,by go_num,rfl,?_,?_,HR2.out,hb3⟩
       · rw [Hid,HM.out]; exact left_carry _ s d hxl (by omega) HD.out
       · rw [Hid,List.length_append,HK.out]; rfl
       · exact left_val xs ys k d s _ HK.out HV.out (by rw [HM.out]; rfl)
      case measure=>simp [intOf]; omega
  · obtain rfl:k=la:=by omega
    have hsp:2^s≤2^32:=Nat.pow_le_pow_right (by omega) (by omega)
    have hd1:d<4294967296:=by have:=HD.out; omega
    clear hsp
    go_wp2_with (at_builtin; refine wpList_append_word rfl (.tmp 39) (.tmp 42) rfl w.heap.size _ (List.replicate (n/32) 0++ys) rfl (hrow'.out.alloc _) ⟨wr.heap.size,0,none⟩ 1 d _ rfl (cell_new0 _ _ _) ?_ hd1 ?_ ?_ ?_)
    · omega
    · simp only [List.length_append,List.length_replicate,HK.out]; omega
    · simp; omega
    · intro v' w' hrow2 hb2
      have hb3:Below w.heap.size w w':=(hb'.alloc (by omega) _).trans hb2
      have hw:=hrow2.words (by simp only [List.length_append,List.length_replicate,HK.out,List.length_cons,List.length_nil]; omega)
      have HW:=Lib.hid hw
      obtain ⟨A',L',cap',rfl⟩:=hw.form
      clear hrow2 hb2 hb' hw
      go_wp2_with (go_at_call 363; refine (cut_any HW.out).mono ?_; rintro e w2 ⟨rfl,rfl⟩)
      go_ret
      refine ⟨_,rfl,?_,hb3⟩
      have h2:=HW.out.trim_
      have h3:trim (List.replicate (n/32) 0++(ys++[d]))=dig (val xs*2^n):=by
       refine dig_of _ _ HW.out.1 (left_end xs ys n d ?_)
       have:=HV.out
       rw [val_take_all xs _ (by rw [hla.out]; exact Nat.le_refl _),HS.out] at this
       rw [HK.out]; exact this
      rw [← h3]
      exact h2
theorem or_two (a x:Nat) (ha:a<4294967296) (hx:x<4294967296):bits BinOp.or IntKind.u64 ((a:Int)*4294967296) (x:Int)=((a*4294967296+x:Nat):Int):=by
 have:=bits_or_u64_nat (a*4294967296) x (by omega) (by omega)
 rw [or_word a x hx] at this
 rw [← this]; rfl
theorem or_two' (a x:Nat) (ha:a<4294967296) (hx:x<4294967296):bits BinOp.or IntKind.u64 (x:Int) ((a:Int)*4294967296)=((a*4294967296+x:Nat):Int):=by
 have:=bits_or_u64_nat x (a*4294967296) (by omega) (by omega)
 rw [Nat.or_comm,or_word a x hx] at this
 rw [← this]; rfl
theorem short_any {A:Option Addr} {la ca:Nat} {xs:List Nat} {w:World} (hx:Words w (.slice A la ca) xs) (h1:la≤17179869184) (d:Nat) (hd0:0<d) (hd:d<4294967296) :
  Calls Tryz.prog 326 #[.slice A la ca,.int .u32 (d:Int)] w fun e w'=>∃ v,e=.returned (.tuple #[v,.int .u32 ((val xs % d:Nat):Int)])∧Words w' v (dig (val xs/d))∧Below w.heap.size w w':=by
 have hla:=Lib.hid hx.len.1
 have HA:=Lib.hid hx
 have hwx:=Lib.hid hx.1
 clear hx
 have hd1:(1:Int)≤(d:Int):=by omega
 go_enter Tryz.func326,Tryz.ntmps326
 go_wp2_with (at_make; refine wpList_make_words rfl _ _ rfl _ _ _ _ la la rfl rfl rfl rfl (by omega) (by omega) ?_)
 intro w1 hbuf hb1 hz1
 have HZ:=Lib.hid hz1
 clear hz1
 go_wp2
 go_loopw [7,8] (fun c i wr=>∃ (k r:Nat) (qs:List Nat),k≤la∧r<d∧c=.int .u64 (r:Int)∧i=.int .i64 ((k:Int)-1)∧Hid (qs.length=la-k)∧Hid (val qs*d+r=val (xs.drop k))∧Buf wr w.heap.size (List.replicate k 0++qs)∧Below w.heap.size w wr) (fun _ i _=>(intOf i+1).toNat)
 case atStart=>exact ⟨la,0,[],by omega,hd0,rfl,rfl,by simp [Hid],by rw [Hid,List.drop_of_length_le (by rw [hla.out]; exact Nat.le_refl _)]; simp [val],by simpa using hbuf,hb1⟩
 case round =>
  obtain ⟨k,r,qs,hk,hr,rfl,rfl,HK,HV,hbuf',hb'⟩:=hrel
  have hlt:=hb'.size
  have hblt:=hbuf'.lt
  clear hbuf hb1 HZ
  by_cases hk0:0<k
  · obtain ⟨k,rfl⟩:∃ j,k=j+1:=⟨k-1,by omega⟩
    have e1:((k+1:Nat):Int)-1=(k:Int):=by omega
    rw [e1]
    clear e1
    have hX:=(HA.out.below hb')
    obtain ⟨b,o,rfl,hcx⟩:=hX.open_ (by omega)
    have hcx:=hcx k (by omega)
    have hxl:=hwx.out.get? k
    have hst:=hbuf'.cell k (by rw [List.length_append,HK.out,List.length_replicate]; omega)
    have hfz:=hbuf'.frozen k
    have HBUF:=Lib.hid hbuf'
    have hor:=or_two r (xs[k]?.getD 0) (by omega) hxl
    obtain ⟨t,ht⟩:∃ t,t=r*4294967296+xs[k]?.getD 0:=⟨_,rfl⟩
    rw [← ht] at hor
    have htb:t≤18446744073709551615:=by omega
    obtain ⟨q,hqd⟩:∃ q,q=t/d:=⟨_,rfl⟩
    obtain ⟨r',hrd⟩:∃ r',r'=t % d:=⟨_,rfl⟩
    have hq:((t:Int)/(d:Int))=(q:Int):=by rw [hqd]; rfl
    have hq2:((t:Int) % (d:Int))=(r':Int):=by rw [hrd]; rfl
    have hqb:q≤4294967295:=by have:=short_word r d (xs[k]?.getD 0) hr hxl; rw [← ht,← hqd] at this; omega
    have hrb:r'<d:=by rw [hrd]; exact Nat.mod_lt _ hd0
    have HQ:=Lib.hid hqd
    have HR:=Lib.hid hrd
    have HT:=Lib.hid ht
    have hk1:(0:Int)≤(k:Int):=by omega
    clear hX hbuf' ht hqd hrd
    go_wp2
    go_roundw
    case rel =>
     refine ⟨k,r',q::qs,by omega,hrb,by rw [hq2],rfl,?_,by rw [HQ.out,HR.out]; exact short_val xs qs k r d t (by have:=hla.out; omega) HV.out (by rw [HT.out]; rfl),?_,hb'.setCell (Nat.le_refl _) _⟩
     · rw [Hid,List.length_cons,HK.out]; omega
     · have:=HBUF.out.set k q _ (by omega) rfl
       rw [set_zero_append] at this
       exact this
    case measure=>simp [intOf]
  · obtain rfl:k=0:=by omega
    rw [List.replicate_zero,List.nil_append] at hbuf'
    have hw:=hbuf'.words (cap:=la) (by rw [HK.out]; omega) (by rw [HK.out]; omega)
    rw [HK.out,Nat.sub_zero] at hw
    have HW:=Lib.hid hw
    have hend:=Lib.hid (short_end xs qs r d hr (by have:=HV.out; rwa [List.drop_zero] at this))
    clear hbuf' hw
    go_wp2_with (go_at_call 363; refine (cut_any HW.out).mono ?_; rintro e w2 ⟨rfl,rfl⟩)
    go_ret2
    refine ⟨.slice (some ⟨w.heap.size,0,none⟩) (trim qs).length la,?_,?_,hb'⟩
    · rw [← hend.out.2]; rfl
    · rw [← dig_of qs _ HW.out.1 hend.out.1]
      exact HW.out.trim_
theorem right_any {A:Option Addr} {la ca:Nat} {xs:List Nat} {w:World} (hx:Words w (.slice A la ca) xs) (h1:la≤17179869184) (n:Nat) (hn:n≤1099511627776) :
  Calls Tryz.prog 377 #[.slice A la ca,.int .i64 (n:Int)] w fun e w'=>∃ v,e=.returned v∧Words w' v (dig (val xs/2^n))∧Below w.heap.size w w':=by
 have hla:=Lib.hid hx.len.1
 have hlc:=hx.len.2
 by_cases h0:la≤n/32
 · have HE:=Lib.hid (shr_none xs n hx.1 (by rw [← hla.out]; exact h0))
   have h0':(la:Int)≤(n:Int)/32:=by omega
   clear hx
   go_enter Tryz.func377,Tryz.ntmps377
   go_wp2
   go_ret
   refine ⟨_,rfl,?_,Below.refl _ _⟩
   rw [HE.out,dig_zero]
   exact Words.nil w
 · have h0':(n:Int)/32<(la:Int):=by omega
   obtain ⟨s,hs⟩:∃ s,s=n % 32:=⟨_,rfl⟩
   have hs32:s<32:=by omega
   have hsi:(n:Int) % 32=(s:Int):=by omega
   obtain ⟨q,hq⟩:∃ q,q=n/32:=⟨_,rfl⟩
   have hqi:(n:Int)/32=(q:Int):=by omega
   have hqla:q<la:=by omega
   have HE:=shr_words xs n hx.1 (by rw [← hla.out]; omega)
   rw [← hs,← hq] at HE
   have hd:=Words.drop (xs:=xs) (by have:=hx; rw [hla.out] at this; exact this) q (by rw [← hla.out]; omega)
   rw [← hla.out] at hd
   obtain ⟨b,o,rfl,_⟩:=hx.open_ (by omega)
   have hadd:(Option.map (fun x:Addr=>x.add q) (some ⟨b,o,none⟩):Option Addr)=some ⟨b,o+q,none⟩:=by
    simp only [Option.map_some,Addr.add]
    split
    · rename_i h; subst h; rfl
    · rfl
   rw [hadd] at hd
   have HD:=Lib.hid hd
   have hwy:=Lib.hid hd.1
   have hly:=Lib.hid hd.len.1
   have HE2:=Lib.hid HE
   obtain ⟨ys,hys⟩:∃ ys,ys=xs.drop q:=⟨_,rfl⟩
   rw [← hys] at HD hwy hly HE2
   clear hx hadd hd HE hs hq hys h0 h0'
   go_enter Tryz.func377,Tryz.ntmps377
   go_wp2_with (at_make; refine wpList_make_words rfl _ _ rfl _ _ _ _ (la-q) (la-q) rfl rfl (by omega) (by omega) (by omega) (by omega) ?_)
   intro w1 hbuf hb1 hz1
   have HZ:=Lib.hid hz1
   clear hz1
   go_wp2
   go_loopw [23] (fun i wr=>∃ (k:Nat),k≤la-q∧i=.int .i64 (k:Int)∧Buf wr w.heap.size ((shrL s ys).take k++List.replicate (la-q-k) 0)∧Below w.heap.size w wr) (fun i _=>la-q-(intOf i).toNat)
   case atStart=>exact ⟨0,by omega,rfl,by simpa using hbuf,hb1⟩
   case round =>
    obtain ⟨k,hk,rfl,hbuf',hb'⟩:=hrel
    have hlt:=hb'.size
    have hblt:=hbuf'.lt
    clear hbuf hb1 HZ
    have hkl:((shrL s ys).take k).length=k:=by rw [List.length_take,shrL_length,← hly.out]; omega
    by_cases hk1:k<la-q
    · have hki:(k:Int)<((la-q:Nat):Int):=by omega
      have hX:=(HD.out.below hb')
      obtain ⟨b',o',he',hcx⟩:=hX.open_ (by omega)
      injection he' with he'
      injection he' with e1 e2 _
      subst e1 e2
      have hcx1:=hcx k (by omega)
      have hxl:=hwy.out.get? k
      have hst:=hbuf'.cell k (by rw [List.length_append,hkl,List.length_replicate]; omega)
      have hfz:=hbuf'.frozen k
      have HBUF:=Lib.hid hbuf'
      have HKL:=Lib.hid hkl
      clear hX hbuf' hkl
      by_cases hk2:k+1<la-q
      · have hki2:(k:Int)+1<((la-q:Nat):Int):=by omega
        have hcx2:=hcx (k+1) hk2
        have hxl2:=hwy.out.get? (k+1)
        have hor:=or_two' (ys[k+1]?.getD 0) (ys[k]?.getD 0) hxl2 hxl
        obtain ⟨t,ht⟩:∃ t,t=ys[k+1]?.getD 0*4294967296+ys[k]?.getD 0:=⟨_,rfl⟩
        rw [← ht] at hor
        have htb:t≤18446744073709551615:=by omega
        obtain ⟨u,hu⟩:∃ u,u=t/2^s:=⟨_,rfl⟩
        have hui:(t:Int)/2^s=(u:Int):=by rw [hu,Int.natCast_ediv,Int.natCast_pow]; rfl
        have HU:=Lib.hid hu
        have HT:=Lib.hid ht
        clear hcx hu ht
        go_wp2
        go_roundw
        case rel =>
         refine ⟨k+1,by omega,rfl,?_,hb'.setCell (Nat.le_refl _) _⟩
         have h:=HBUF.out.push HKL.out (by omega) (u % 4294967296) ((u:Int) % 4294967296) (by omega) (by omega)
         rw [shrL_take s ys k (by rw [← hly.out]; exact hk1)]
         have e:(ys.getD k 0+4294967296*ys.getD (k+1) 0)/2^s=u:=by rw [HU.out,HT.out,Nat.add_comm,Nat.mul_comm]; rfl
         rw [e,show la-q-(k+1)=la-q-k-1 from by omega]
         exact h
        case measure=>simp [intOf]; omega
      · have hki2:¬ (k:Int)+1<((la-q:Nat):Int):=by omega
        have hy0:ys.getD (k+1) 0=0:=getD_out (by rw [← hly.out]; omega)
        have HY0:=Lib.hid hy0
        obtain ⟨u,hu⟩:∃ u,u=ys[k]?.getD 0/2^s:=⟨_,rfl⟩
        have hui:((ys[k]?.getD 0:Nat):Int)/2^s=(u:Int):=by rw [hu,Int.natCast_ediv,Int.natCast_pow]; rfl
        have HU:=Lib.hid hu
        clear hcx hu hy0
        go_wp2
        go_roundw
        case rel =>
         refine ⟨k+1,by omega,rfl,?_,hb'.setCell (Nat.le_refl _) _⟩
         have h:=HBUF.out.push HKL.out (by omega) (u % 4294967296) ((u:Int) % 4294967296) (by omega) (by omega)
         rw [shrL_take s ys k (by rw [← hly.out]; exact hk1)]
         have e:(ys.getD k 0+4294967296*ys.getD (k+1) 0)/2^s=u:=by rw [HU.out,HY0.out]; rfl
         rw [e,show la-q-(k+1)=la-q-k-1 from by omega]
         exact h
        case measure=>simp [intOf]; omega
    · obtain rfl:k=la-q:=by omega
      rw [Nat.sub_self,List.replicate_zero,List.append_nil,List.take_of_length_le (by rw [shrL_length,← hly.out]; exact Nat.le_refl _)] at hbuf'
      have hw:=hbuf'.words (cap:=la-q) (by rw [shrL_length,← hly.out]; omega) (by rw [shrL_length,← hly.out]; exact Nat.le_refl _)
      rw [shrL_length,← hly.out] at hw
      have HW:=Lib.hid hw
      clear hbuf' hw hkl
      go_wp2_with (go_at_call 363; refine (cut_any HW.out).mono ?_; rintro e w2 ⟨rfl,rfl⟩)
      go_ret
      refine ⟨_,rfl,?_,hb'⟩
      rw [← HE2.out,← val_shrL s ys hwy.out hs32,← dig_of _ _ (Wf_shrL s ys) rfl]
      exact HW.out.trim_
end
end Go.Proofs.YthkpghhoffihmaaGreatDoor
end
