/- Package frac: number, back. -/
import Derived.Test.YtaenedjanckaiaaGreatWh
namespace Go.Proofs.YtaenedjanckaiaaGreat
set_option linter.unnecessarySimpa false
set_option linter.unusedVariables false
set_option linter.unusedSimpArgs false
open Go.RowKit

theorem size_alloc (w : World) (o : Obj) : (w.alloc o).heap.size = w.heap.size + 1 := by simp
theorem byt_row {W : World} (s : ByteArray) (c cap n : Nat) (fr : Nat × Nat) (hn : n = W.heap.size) : Byt ((W.alloc (.cells (bytesRow s c) 5 fr)).drew) (.slice (some ⟨n, 0, none⟩) s.size cap) (leS s).reverse := by
  subst hn
  have hl : (leS s).reverse.length = s.size := by rw [List.length_reverse, leS_len]
  refine ⟨(B8_leS s).reverse, W.heap.size, cap, bytesRow s c, 5, fr, by rw [hl], ?_, ?_⟩
  · exact heap_alloc_new W _
  · intro i hi
    rw [hl] at hi
    have hd : i < s.data.size := hi
    rw [bytesRow_at s _ i hd, leS, List.reverse_reverse, getD_in (by rw [List.length_map]; exact hd), List.getElem_map]
    rfl
theorem IntAt.new_at {w : World} {n : Nat} (hn : n = w.heap.size) : IntAt (w.alloc (.cells #[.bool false, .slice none 0 0] 83)) n 0 0 := hn ▸ IntAt.new w
theorem below_row (W : World) (c : Array Value) (t : TypeId) (fr : Nat × Nat) : Below W.heap.size W ((W.alloc (.cells c t fr)).drew) := ((Below.refl _ _).alloc (Nat.le_refl _) _).drew
theorem below_new (W : World) (o : Obj) : Below W.heap.size W (W.alloc o) := (Below.refl _ _).alloc (Nat.le_refl _) _

set_option maxRecDepth 100000 in
theorem number_any {w : World} (b : Bool) (s : ByteArray) (hs : s.size ≤ 4294967296) :
    Calls Tryz.prog 73 #[.agg #[.bool b, .string s]] w fun e w' => ∃ g, e = .returned (.pointer (some ⟨g, 0, none⟩)) ∧ w.heap.size ≤ g ∧ IntAt w' g 0 (numOf b s) ∧ Below w.heap.size w w' := by
  have hcv := fun (w : World) => run_bytes_of_string (P := Tryz.prog) w 9 116 5 s Tryz.underlying9 Tryz.underlying116 Tryz.underlying5
  have HS := Lib.hid hs
  have HB := Lib.hid (below_new w (.cells #[.bool b, .string s] 23))
  have HX := Lib.hid (BoxAt.new w #[.bool b, .string s] 23)
  clear hs
  go_enter Tryz.func73, Tryz.ntmps73
  go_wp2_with fail
  generalize hW2 : (w.alloc (.cells #[.bool b, .string s] 23)).alloc (.cells #[.bool false, .slice none 0 0] 83) = W2
  have hi : IntAt W2 (w.heap.size + 1) 0 0 := by rw [← hW2]; exact IntAt.new_at (size_alloc _ _).symm
  have hx : BoxAt W2 w.heap.size #[.bool b, .string s] 23 := by rw [← hW2]; exact HX.out.on (below_new _ _)
  have hb : Below w.heap.size w W2 := by rw [← hW2]; exact HB.out.trans ((below_new _ _).mono (by simp))
  have hsz : w.heap.size + 1 + 1 = W2.heap.size := by rw [← hW2]; simp
  have hby := byt_row (W := W2) s (grownCap W2 s.size 0 5) (grownCap W2 s.size 0 5) (w.heap.size + 1 + 1) ((bytesRow s (grownCap W2 s.size 0 5)).size, (bytesRow s (grownCap W2 s.size 0 5)).size + 1) hsz
  have hbl := below_row W2 (bytesRow s (grownCap W2 s.size 0 5)) 5 ((bytesRow s (grownCap W2 s.size 0 5)).size, (bytesRow s (grownCap W2 s.size 0 5)).size + 1)
  clear hW2
  generalize grownCap W2 s.size 0 5 = c at hby hbl ⊢
  generalize (W2.alloc (.cells (bytesRow s c) 5 ((bytesRow s c).size, (bytesRow s c).size + 1))).drew = W3 at hby hbl ⊢
  refine (SetBytes_any (hi.on hbl).slot hby HS.out).mono ?_
  rintro e w1 ⟨rfl, h1, h2⟩
  rw [List.reverse_reverse] at h1
  have HX1 := Lib.hid (hx.on hbl)
  have HB1 := Lib.hid (hb.trans (hbl.mono hb.size))
  have HI := Lib.hid h1
  have HT := Lib.hid (h2.below (B := w.heap.size + 1) (Nat.le_refl _) (by have := hbl.size; omega))
  have hc0 : w1.cell? ⟨w.heap.size, 0, none⟩ = some (.bool b) := by rw [HT.out.cell (by simp)]; exact HX1.out.cell 0 _ rfl
  have hc1 : w1.cell? ⟨w.heap.size, 1, none⟩ = some (.string s) := by rw [HT.out.cell (by simp)]; exact HX1.out.cell 1 _ rfl
  have HBB := Lib.hid (HB1.out.trans (HT.out.mono (by omega)))
  clear h1 h2 hi hx hb hsz hby hbl
  cases b
  · go_wp2
    go_ret
    refine ⟨_, rfl, by omega, ?_, HBB.out⟩
    have := HI.out
    simpa [numOf, sg, num] using this
  · go_wp2_with fail
    refine (neg_any HI.out.slot HI.out).mono ?_
    rintro e w2 ⟨rfl, h1, h2⟩
    have H1 := Lib.hid h1
    have H2 := Lib.hid (HBB.out.trans (h2.below (by omega) HBB.out.size))
    clear h1 h2 hc0 hc1
    go_wp2
    go_ret
    refine ⟨_, rfl, by omega, ?_, H2.out⟩
    have := H1.out
    simpa [numOf, sg, num] using this

set_option maxRecDepth 100000 in
theorem back_any {w : World} {b o : Nat} {n : Int} (hx : IntAt w b o n) (hn : Okn n) :
    Calls Tryz.prog 68 #[.pointer (some ⟨b, o, none⟩)] w fun e w' => e = .returned (wholeV n) ∧ Below w.heap.size w w' := by
  have HB := Lib.hid (below_new w (.cells #[.bool false, .string ⟨#[]⟩] 23))
  have hx1 := hx.on HB.out
  have HX := Lib.hid hx1
  have HN := Lib.hid hn
  have HC := Lib.hid (BoxAt.new w #[.bool false, .string ⟨#[]⟩] 23)
  obtain ⟨s, hs⟩ : ∃ s, s = decide (n < 0) := ⟨_, rfl⟩
  have hsg : decide (n.sign < 0) = s := by
    rw [hs]
    refine decide_eq_decide.2 ?_
    exact Int.sign_neg_iff
  have HSG := Lib.hid hs
  clear hx hx1 hn hs
  go_enter Tryz.func68, Tryz.ntmps68
  go_wp2_with fail
  refine (sign_any HX.out).mono ?_
  rintro e w1 ⟨rfl, rfl⟩
  go_wp2_with fail
  refine (Bytes_any HX.out HN.out).mono ?_
  rintro e w2 ⟨v, rfl, hby, hb⟩
  obtain ⟨h, m, cap, rfl⟩ := hby.form
  have hcv := string_of_byt hby
  have hc0 := (HC.out.on hb).cell 0 _ rfl
  have hc1 := (HC.out.on hb).cell 1 _ rfl
  have hf := (HC.out.on hb).frozen
  have HK := Lib.hid (((HC.out.on hb).set 0 (.bool (decide (n < 0)))).set 1 (.string (strN (led n.natAbs).reverse)))
  have HB2 := Lib.hid (HB.out.trans (hb.mono HB.out.size))
  clear hby hb
  go_wp2
  have h0 := HK.out.cell 0 (.bool (decide (n < 0))) rfl
  have h1 := HK.out.cell 1 (.string (strN (led n.natAbs).reverse)) rfl
  exact bodyPost_ret (v := wholeV n) (by simp [results, Tryz.results68, go_sem, h0, h1, wholeV, mag]) rfl ⟨rfl, (HB2.out.setCell (Nat.le_refl _) _).setCell (Nat.le_refl _) _⟩
end Go.Proofs.YtaenedjanckaiaaGreat
