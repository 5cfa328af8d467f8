/- Package whole: of (of one number), Text. -/
import Derived.Test.YtaenedjanckaiaaGreatNb
namespace Go.Proofs.YtaenedjanckaiaaGreat
set_option linter.unnecessarySimpa false
set_option linter.unusedVariables false
set_option linter.unusedSimpArgs false
open Go.RowKit

def pv (g : Nat) : Value := .pointer (some ⟨g, 0, none⟩)
theorem ptr_info : (Tryz.prog.info? 78).map (fun i => (i.zero, i.size, i.bytes)) = some (some (.pointer none), 1, 8) := by kernel_rfl
/-- A row of numbers of the call's own, that may be appended to. -/
def PRow (w : World) (base : Nat) (v : Value) (zs : List Nat) : Prop := w.ownsRow base 78 1 v zs.length (zs.map pv)
theorem PRow.nil (w : World) (base : Nat) : PRow w base (.slice none 0 0) [] := by simpa [PRow] using World.ownsRow_nil w base 78 1
theorem PRow.alloc {w : World} {base : Nat} {v : Value} {zs : List Nat} (h : PRow w base v zs) (o : Obj) : PRow (w.alloc o) base v zs := World.ownsRow.alloc h o
theorem PRow.on {w w' : World} {base : Nat} {v : Value} {zs : List Nat} (h : PRow w base v zs) (k : Below w.heap.size w w') : PRow w' base v zs := by
  obtain ⟨h1, h2⟩ := h
  refine ⟨h1, ?_⟩
  rcases h2 with h2 | ⟨g, cap, cur, e, hg, hh, hc⟩
  · exact .inl h2
  · exact .inr ⟨g, cap, cur, e, hg, by rw [k.block g (heap_some_lt hh)]; exact hh, hc⟩
theorem PRow.open_ {w : World} {base : Nat} {v : Value} {zs : List Nat} (h : PRow w base v zs) (h0 : 0 < zs.length) :
    ∃ g cap, v = .slice (some ⟨g, 0, none⟩) zs.length cap ∧ base ≤ g ∧ g < w.heap.size ∧ ∀ i, i < zs.length → w.cell? ⟨g, i, none⟩ = some (pv (zs.getD i 0)) := by
  obtain ⟨hlen, h2⟩ := h
  rcases h2 with ⟨rfl, h1⟩ | ⟨g, cap, cur, rfl, hg, hh, hc, _, hcs, ht⟩
  · omega
  · refine ⟨g, cap, rfl, hg, heap_some_lt hh, fun i hi => ?_⟩
    have h3 : (cur.toList.take (zs.length * 1))[i]? = (zs.map pv)[i]? := by rw [ht]
    rw [List.getElem?_take_of_lt (by omega), List.getElem?_map, List.getElem?_eq_getElem hi] at h3
    rw [cell_of_row _ _ _ _ _ _ hh, ← Array.getElem?_toList, h3, getD_in hi]
    rfl
theorem wpList_append_ptr {ops : Array Oper} {rest : List Oper} {o : Oper} {a : Act} {w : World} {Q : Exit → Act → World → Prop} (hg : o.guard = none) (s x : Operand)
    (ho : o.op = .call { callee := .builtin .append, args := #[s, x], argTypes := #[121, 121] })
    (base : Nat) (v : Value) (zs : List Nat) (hs : a.eval s = v) (hown : PRow w base v zs) (ad : Addr) (c : Nat) (y : Nat) (hx : a.eval x = .slice (some ad) 1 c) (hcell : w.cell? ad = some (pv y))
    (hlen : zs.length ≤ 17179869184) (hbase : base ≤ w.heap.size)
    (hK : ∀ v' w', PRow w' base v' (zs ++ [y]) → Below base w w' → w.grownBy w' v.ownBlock → wpList Tryz.prog ops Q rest (a.put o.dst v') w') : wpList Tryz.prog ops Q (o :: rest) a w := by
  obtain ⟨i0, hi, hz0, hz1, hz2⟩ := info_parts ptr_info
  refine wpList_append_own w hg s x 121 ho base 78 i0 (.pointer none) 1 8 Tryz.underlying121 hi hz0 hz1 hz2 rfl (by decide) v zs.length (zs.map pv) hs hown ad 1 c [pv y] hx rfl ?_ ?_ (by simp only [maxLen]; omega) (by omega) hbase ?_
  · intro j u hj
    cases j with
    | zero =>
      simp at hj
      subst hj
      simpa [Addr.add] using hcell
    | succ j => simp at hj
  · intro u hu
    simp at hu
    subst hu
    rfl
  · intro v' w' h1 h2 _
    refine hK v' w' (by simpa [PRow] using h1) ((Below.refl _ _).grown h2 hbase fun k hk => ?_) h2
    · rcases hown.2 with ⟨rfl, _⟩ | ⟨g, cap, cur, rfl, hb, _⟩
      · simp [Value.ownBlock] at hk
      · simp [Value.ownBlock] at hk
        omega

/-- What 'of' tells of one number. -/
def OfPost (b : Bool) (s : ByteArray) (w : World) (e : Ending) (w' : World) : Prop :=
  ((WholeOk b s ∧ ∃ h cap p, e = .returned (.tuple #[.slice (some ⟨h, 0, none⟩) 1 cap, .bool true]) ∧ w'.cell? ⟨h, 0, none⟩ = some (.pointer (some ⟨p, 0, none⟩)) ∧ IntAt w' p 0 (numOf b s)) ∨
    (¬ WholeOk b s ∧ e = .returned (.tuple #[.slice none 0 0, .bool false]))) ∧ Below w.heap.size w w'
set_option maxHeartbeats 1600000 in
set_option maxRecDepth 100000 in
theorem of_one {w0 : World} {a cap : Nat} (b : Bool) (s : ByteArray) (hs : s.size ≤ 4294967296) {T : TypeId} (ha : BoxAt w0 a #[.bool b, .string s] T) :
    Calls Tryz.prog 122 #[.slice (some ⟨a, 0, none⟩) 1 cap] w0 (OfPost b s w0) := by
  have hcv := fun (w : World) => run_bytes_of_string (P := Tryz.prog) w 9 116 5 s Tryz.underlying9 Tryz.underlying116 Tryz.underlying5
  have HS := Lib.hid hs
  have HS2 : Hid (s.size ≤ maxLen) := by unfold Hid maxLen; omega
  have HX := Lib.hid ha
  have hc0 := ha.cell 0 (.bool b) rfl
  have hc1 := ha.cell 1 (.string s) rfl
  clear hs ha
  go_enter Tryz.func122, Tryz.ntmps122
  go_wp2
  go_loopw [4, 10] (fun v i wr => Below w0.heap.size w0 wr ∧ ((v = .slice none 0 0 ∧ i = .int .i64 0) ∨ (WholeOk b s ∧ i = .int .i64 1 ∧ ∃ h cap p, v = .slice (some ⟨h, 0, none⟩) 1 cap ∧ wr.cell? ⟨h, 0, none⟩ = some (.pointer (some ⟨p, 0, none⟩)) ∧ IntAt wr p 0 (numOf b s)))) (fun _ i _ => 1 - (intOf i).toNat)
  case atStart => exact ⟨Below.refl _ _, .inl ⟨rfl, rfl⟩⟩
  case round =>
    obtain ⟨hb, h | h⟩ := hrel
    · obtain ⟨rfl, rfl⟩ := h
      have HBR := Lib.hid hb
      have hd0 := (HX.out.on hb).cell 0 (.bool b) rfl
      have hd1 := (HX.out.on hb).cell 1 (.string s) rfl
      have HN := Lib.hid (BoxAt.new wr #[.bool b, .string s] 23)
      have HBN := Lib.hid (below_new wr (.cells #[.bool b, .string s] 23))
      clear hb hc0 hc1
      go_wp2_with fail
      refine (Check_any b s HS2.out).mono ?_
      rintro e w1 ⟨k, rfl, hk, hb⟩
      have HB1 := Lib.hid ((HBR.out.trans (HBN.out.mono HBR.out.size)).trans (hb.mono (Nat.le_trans HBR.out.size HBN.out.size)))
      have HN1 := Lib.hid (HN.out.on hb)
      have hl1 : wr.heap.size < w1.heap.size := HN1.out.lt
      clear hb hd0 hd1
      by_cases ho : WholeOk b s
      · obtain rfl : k = 0 := hk.elim (fun h => h.1) (fun h => absurd ho h.2)
        have HO := Lib.hid ho
        have hn0 := HN1.out.cell 0 (.bool b) rfl
        have hn1 := HN1.out.cell 1 (.string s) rfl
        clear hk ho
        go_wp2_with fail
        generalize hW2 : w1.alloc (.cells #[.bool false, .slice none 0 0] 83) = W2
        have hi : IntAt W2 w1.heap.size 0 0 := by rw [← hW2]; exact IntAt.new _
        have hx : BoxAt W2 wr.heap.size #[.bool b, .string s] 23 := by rw [← hW2]; exact HN1.out.on (below_new _ _)
        have hb : Below w1.heap.size w1 W2 := by rw [← hW2]; exact below_new _ _
        have hsz : w1.heap.size + 1 = W2.heap.size := by rw [← hW2]; simp
        have hby := byt_row (W := W2) s (grownCap W2 s.size 0 5) (grownCap W2 s.size 0 5) (w1.heap.size + 1) ((bytesRow s (grownCap W2 s.size 0 5)).size, (bytesRow s (grownCap W2 s.size 0 5)).size + 1) hsz
        have hbl := below_row W2 (bytesRow s (grownCap W2 s.size 0 5)) 5 ((bytesRow s (grownCap W2 s.size 0 5)).size, (bytesRow s (grownCap W2 s.size 0 5)).size + 1)
        clear hW2
        generalize grownCap W2 s.size 0 5 = c at hby hbl ⊢
        generalize (W2.alloc (.cells (bytesRow s c) 5 ((bytesRow s c).size, (bytesRow s c).size + 1))).drew = W3 at hby hbl ⊢
        refine (SetBytes_any (hi.on hbl).slot hby HS.out).mono ?_
        rintro e w4 ⟨rfl, h1, h2⟩
        rw [List.reverse_reverse] at h1
        have HT := Lib.hid (h2.below (B := w1.heap.size) (Nat.le_refl _) (by have := hbl.size; omega))
        have HB4 := Lib.hid ((hb.trans (hbl.mono hb.size)).trans HT.out)
        have hd0 : w4.cell? ⟨wr.heap.size, 0, none⟩ = some (.bool b) := by rw [HB4.out.cell (by simp; omega)]; exact HN1.out.cell 0 _ rfl
        have HI := Lib.hid h1
        have HBB := Lib.hid (HB1.out.trans (HB4.out.mono HB1.out.size))
        clear h1 h2 hi hx hb hsz hby hbl hn0 hn1
        cases b
        · have HV : Hid (IntAt w4 w1.heap.size 0 (numOf false s)) := by
            have := HI.out
            simpa [Hid, numOf, sg, num] using this
          go_wp2_with (at_builtin; refine wpList_append_ptr rfl (.tmp 32) (.tmp 34) rfl w0.heap.size _ [] rfl ((PRow.nil _ _).alloc _) ⟨w4.heap.size, 0, none⟩ 1 w1.heap.size rfl (cell_new0 _ _ _) ?_ ?_ ?_)
          · exact Nat.zero_le _
          · have := HBB.out.size; simp; omega
          intro v' w6 hrow hb6 hgr
          obtain ⟨h, cap2, rfl, _, hlt, hcc⟩ := hrow.open_ (by simp)
          have HC := Lib.hid (hcc 0 (by simp))
          have HB6 := Lib.hid ((HBB.out.trans ((below_new w4 (.cells #[.pointer (some ⟨w1.heap.size, 0, none⟩)] 78)).mono HBB.out.size)).trans hb6)
          have HV6 := Lib.hid ((HV.out.on (below_new w4 (.cells #[.pointer (some ⟨w1.heap.size, 0, none⟩)] 78))).on (Below.grown (Below.refl _ _) hgr (Nat.le_refl _) (fun k hk => by simp [Value.ownBlock] at hk)))
          clear hrow hb6 hgr hcc
          go_wp2
          go_roundw
          case rel => exact ⟨HB6.out, .inr ⟨HO.out, by go_num, h, cap2, _, rfl, HC.out, HV6.out⟩⟩
          case measure => simp [intOf]
        · go_wp2_with fail
          refine (neg_any HI.out.slot HI.out).mono ?_
          rintro e w5 ⟨rfl, h1, h2⟩
          have HV : Hid (IntAt w5 w1.heap.size 0 (numOf true s)) := by
            have := h1
            simpa [Hid, numOf, sg, num] using this
          have HB5 := Lib.hid (HBB.out.trans (h2.below (B := w0.heap.size) (by have := HB1.out.size; omega) HBB.out.size))
          clear h1 h2 hd0
          go_wp2_with (at_builtin; refine wpList_append_ptr rfl (.tmp 32) (.tmp 34) rfl w0.heap.size _ [] rfl ((PRow.nil _ _).alloc _) ⟨w5.heap.size, 0, none⟩ 1 w1.heap.size rfl (cell_new0 _ _ _) ?_ ?_ ?_)
          · exact Nat.zero_le _
          · have := HB5.out.size; simp; omega
          intro v' w6 hrow hb6 hgr
          obtain ⟨h, cap2, rfl, _, hlt, hcc⟩ := hrow.open_ (by simp)
          have HC := Lib.hid (hcc 0 (by simp))
          have HB6 := Lib.hid ((HB5.out.trans ((below_new w5 (.cells #[.pointer (some ⟨w1.heap.size, 0, none⟩)] 78)).mono HB5.out.size)).trans hb6)
          have HV6 := Lib.hid ((HV.out.on (below_new w5 (.cells #[.pointer (some ⟨w1.heap.size, 0, none⟩)] 78))).on (Below.grown (Below.refl _ _) hgr (Nat.le_refl _) (fun k hk => by simp [Value.ownBlock] at hk)))
          clear hrow hb6 hgr hcc
          go_wp2
          go_roundw
          case rel => exact ⟨HB6.out, .inr ⟨HO.out, by go_num, h, cap2, _, rfl, HC.out, HV6.out⟩⟩
          case measure => simp [intOf]
      · obtain rfl : k = 2 := hk.elim (fun h => absurd h.2 ho) (fun h => h.1)
        have HO := Lib.hid ho
        clear hk ho
        go_wp2
        go_ret2
        exact ⟨.inr ⟨HO.out, rfl⟩, HB1.out⟩
    · obtain ⟨ho, rfl, h, cap2, p, rfl, hc, hi⟩ := h
      have HO := Lib.hid ho
      have HC := Lib.hid hc
      have HI := Lib.hid hi
      have HB := Lib.hid hb
      clear ho hc hi hb hc0 hc1
      go_wp2
      go_ret2
      exact ⟨.inl ⟨HO.out, h, cap2, p, rfl, HC.out, HI.out⟩, HB.out⟩
end Go.Proofs.YtaenedjanckaiaaGreat
