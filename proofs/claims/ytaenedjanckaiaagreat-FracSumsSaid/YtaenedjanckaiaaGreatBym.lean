/- Bytes in memory: a slice of bytes, an own block of them, a row that is appended to; whole numbers and fractions as values. -/
import Derived.Laws.IdiomStrings
import Derived.Laws.BytesArg
import Derived.Test.YtaenedjanckaiaaGreatMem
import Derived.Test.YtaenedjanckaiaaGreatNum
namespace Go.Proofs.YtaenedjanckaiaaGreat
set_option linter.unnecessarySimpa false
set_option linter.unusedVariables false
set_option linter.unusedSimpArgs false
open Go.RowKit

/-- A whole number as a value. -/
def wholeV (n : Int) : Value := .agg #[.bool (decide (n < 0)), .string (mag n.natAbs)]
/-- A fraction as a value. -/
def fracV (q : Rat) : Value := .agg #[.bool (decide (q.num < 0)), .string (mag q.num.natAbs), .bool false, .string (mag q.den)]

/-- A slice value that reads as bytes. -/
def Byt (w : World) (v : Value) (xs : List Nat) : Prop :=
  B8 xs ∧ ∃ b cap cs t fr, v = .slice (some ⟨b, 0, none⟩) xs.length cap ∧ w.heap[b]? = some (.cells cs t fr) ∧ ∀ i, i < xs.length → cs[i]? = some (.int .u8 (xs.getD i 0 : Nat))
theorem Byt.on {w w' : World} {v : Value} {xs : List Nat} (h : Byt w v xs) (k : Below w.heap.size w w') : Byt w' v xs := by
  obtain ⟨h0, b, cap, cs, t, fr, h1, h2, h3⟩ := h
  exact ⟨h0, b, cap, cs, t, fr, h1, by rw [k.block b (heap_some_lt h2)]; exact h2, h3⟩
theorem Byt.form {w : World} {v : Value} {xs : List Nat} (h : Byt w v xs) : ∃ b n cap, v = .slice (some ⟨b, 0, none⟩) n cap := by
  obtain ⟨_, b, cap, _, _, _, h1, _⟩ := h
  exact ⟨b, _, cap, h1⟩
theorem Byt.open_ {w : World} {b n cap : Nat} {xs : List Nat} (h : Byt w (.slice (some ⟨b, 0, none⟩) n cap) xs) : n = xs.length ∧ B8 xs ∧ b < w.heap.size ∧ ∀ i, i < xs.length → w.cell? ⟨b, i, none⟩ = some (.int .u8 (xs.getD i 0 : Nat)) := by
  obtain ⟨h0, b', cap', cs, t, fr, h1, h2, h3⟩ := h
  injection h1 with h1 h4 h5
  cases Option.some.inj h1
  exact ⟨h4, h0, heap_some_lt h2, fun i hi => by rw [cell_of_row _ _ _ _ _ _ h2]; exact h3 i hi⟩

/-- '[]byte(s)'. -/
theorem byt_of_string {w w' : World} {v : Value} (s : ByteArray) (h : (convert 9 116 (.string s)).run Tryz.prog w = .ok v w') : Byt w' v (leS s).reverse ∧ Below w.heap.size w w' := by
  rw [run_bytes_of_string w _ _ _ s Tryz.underlying9 Tryz.underlying116 Tryz.underlying5] at h
  injection h with h1 h2
  subst h1 h2
  have hl : (leS s).reverse.length = s.size := by rw [List.length_reverse, leS_len]
  refine ⟨⟨(B8_leS s).reverse, w.heap.size, grownCap w s.size 0 5, bytesRow s (grownCap w s.size 0 5), 5, _, by rw [hl], heap_alloc_new w.drew _, ?_⟩, ?_⟩
  · intro i hi
    rw [hl] at hi
    have hd : i < s.data.size := hi
    rw [bytesRow_at s _ i hd, leS, List.reverse_reverse, getD_in (by rw [List.length_map]; exact hd), List.getElem_map]
    rfl
  · exact ((Below.refl _ _).drew).alloc (Nat.le_refl _) _
theorem strOfNums_nat (xs : List Nat) : strOfNums (xs.map Int.ofNat) = strN xs := by
  have e : (xs.map Int.ofNat).map (fun n : Int => UInt8.ofNat n.toNat) = xs.map UInt8.ofNat := by
    rw [List.map_map]
    exact List.map_congr_left fun x _ => rfl
  unfold strOfNums strN
  rw [e]
/-- 'string(b)'. -/
theorem string_of_byt {w : World} {v : Value} {xs : List Nat} (h : Byt w v xs) : (convert 116 9 v).run Tryz.prog w = .ok (.string (strN xs)) w := by
  obtain ⟨b, n, cap, rfl⟩ := h.form
  obtain ⟨h1, h2, _, h4⟩ := h.open_
  have hc : ∀ i, i < n → w.cell? ⟨b, 0 + i, none⟩ = some (.int .u8 ((xs.map Int.ofNat).getD i 0)) := by
    intro i hi
    have hi2 : i < xs.length := by omega
    rw [Nat.zero_add, h4 i hi2]
    simp only [List.getD, List.getElem?_map, List.getElem?_eq_getElem hi2, Option.map_some, Option.getD_some]
    rfl
  rw [← strOfNums_nat]
  exact run_convert_bytes_arg (P := Tryz.prog) w _ _ Tryz.underlying116 Tryz.underlying5 b 0 n cap (xs.map Int.ofNat) (by rw [List.length_map, h1]) hc _ Tryz.underlying9

/-- An own block of bytes. -/
def BBuf (w : World) (g : Nat) (xs : List Nat) : Prop :=
  B8 xs ∧ ∃ cs, w.heap[g]? = some (.cells cs 5 (0, 0)) ∧ xs.length ≤ cs.size ∧ ∀ i, i < xs.length → cs[i]? = some (.int .u8 (xs.getD i 0 : Nat))
theorem BBuf.lt {w : World} {g : Nat} {xs : List Nat} (h : BBuf w g xs) : g < w.heap.size := by obtain ⟨_, _, h, _⟩ := h; exact heap_some_lt h
theorem BBuf.cell {w : World} {g : Nat} {xs : List Nat} (h : BBuf w g xs) (i : Nat) (hi : i < xs.length) : w.cell? ⟨g, i, none⟩ = some (.int .u8 (xs.getD i 0 : Nat)) := by
  obtain ⟨_, cs, h1, _, h3⟩ := h
  rw [cell_of_row w g i cs _ _ h1]
  exact h3 i hi
theorem BBuf.frozen {w : World} {g : Nat} {xs : List Nat} (h : BBuf w g xs) (i : Nat) : w.frozen? ⟨g, i, none⟩ = false := by
  obtain ⟨_, cs, h1, _⟩ := h
  simp [World.frozen?, h1]
theorem B8.set {xs : List Nat} (h : B8 xs) (i x : Nat) (hx : x < 256) : B8 (xs.set i x) := by
  intro y hy
  rcases List.mem_or_eq_of_mem_set hy with h1 | rfl
  · exact h y h1
  · exact hx
theorem B8.zeros (k : Nat) : B8 (List.replicate k 0) := by
  intro x hx
  rw [(List.mem_replicate.1 hx).2]; decide
theorem B8.snoc {xs : List Nat} {x : Nat} (h : B8 xs) (k : x < 256) : B8 (xs ++ [x]) := by
  intro y hy
  rcases List.mem_append.1 hy with h1 | h1
  · exact h y h1
  · rw [List.mem_singleton.1 h1]; exact k
theorem BBuf.set {w : World} {g : Nat} {xs : List Nat} (h : BBuf w g xs) (i x : Nat) (n : Int) (hx : x < 256) (hn : n = x) : BBuf (w.setCell ⟨g, i, none⟩ (.int .u8 n)) g (xs.set i x) := by
  obtain ⟨hw, cs, h1, h2, h3⟩ := h
  subst hn
  refine ⟨hw.set i x hx, cs.setIfInBounds i (.int .u8 (x : Int)), by simp [World.setCell, Array.getElem?_modify, h1], by simpa using h2, fun j hj => ?_⟩
  rw [List.length_set] at hj
  rw [Array.getElem?_setIfInBounds, getD_set]
  by_cases hij : i = j
  · subst hij
    rw [if_pos rfl, if_pos (by omega), if_pos ⟨rfl, hj⟩]
  · simp [hij]
    have := h3 j hj
    simpa using this
theorem BBuf.byt {w : World} {g cap n : Nat} {xs : List Nat} (h : BBuf w g xs) (hn : xs.length = n) : Byt w (.slice (some ⟨g, 0, none⟩) n cap) xs := by
  obtain ⟨hw, cs, h1, h2, h3⟩ := h
  exact ⟨hw, g, cap, cs, _, _, by rw [hn], h1, h3⟩

theorem u8_info : (Tryz.prog.info? 5).map (fun i => (i.zero, i.size, i.bytes)) = some (some (.int .u8 0), 1, 1) := by kernel_rfl
theorem madeCells_byte (n i : Nat) (h : i < n) : (madeCells (Value.int .u8 0).cells n)[i]? = some (.int .u8 0) := by
  simp [madeCells, h, Value.cells, Nat.mod_one]
theorem run_make_bytes (w : World) (kl kc : IntKind) (l c : Int) (n m : Nat) (hl : l = n) (hc : c = m) (hnm : n ≤ m) (hm : m ≤ 34359738368) :
    ∃ w', (Instr.makeSlice 116 (.int kl l) (.int kc c)).run Tryz.prog w = .ok (.slice (some ⟨w.heap.size, 0, none⟩) n m) w' ∧ BBuf w' w.heap.size (List.replicate m 0) ∧ Below w.heap.size w w' ∧ w'.heap.size = w.heap.size + 1 := by
  obtain ⟨i0, hi, hz0, hz1, hz2⟩ := info_parts u8_info
  subst hl hc
  have hr := run_make (P := Tryz.prog) w 116 5 i0 (.int .u8 0) Tryz.underlying116 hi hz0 kl kc n m (by omega) (by omega) (by rw [hz2]; omega) (by omega)
  rw [hz1] at hr
  simp only [Int.toNat_natCast, Nat.mul_one] at hr
  refine ⟨_, hr, ⟨B8.zeros m, _, heap_alloc_new w _, by simp [size_madeCells], fun i hi => ?_⟩, (Below.refl _ _).alloc (Nat.le_refl _) _, by simp⟩
  rw [List.length_replicate] at hi
  rw [madeCells_byte m i hi, getD_in (by simpa using hi), List.getElem_replicate]
  rfl
theorem wpList_make_bytes {ops : Array Oper} {rest : List Oper} {o : Oper} {a : Act} {w : World} {Q : Exit → Act → World → Prop} (hg : o.guard = none) (l c : Operand) (hop : o.op = Op.makeSlice 116 l c)
    (kl kc : IntKind) (L C : Int) (n m : Nat) (hl : a.eval l = .int kl L) (hc : a.eval c = .int kc C) (hL : L = n) (hC : C = m) (hnm : n ≤ m) (hm : m ≤ 34359738368)
    (hK : ∀ w', BBuf w' w.heap.size (List.replicate m 0) → Below w.heap.size w w' → w'.heap.size = w.heap.size + 1 → wpList Tryz.prog ops Q rest (a.put o.dst (.slice (some ⟨w.heap.size, 0, none⟩) n m)) w') :
    wpList Tryz.prog ops Q (o :: rest) a w := by
  refine wpList_plain hg fun K hK' => ?_
  obtain ⟨w', hrun, r1, r2, r3⟩ := run_make_bytes w kl kc L C n m hL hC hnm hm
  unfold Oper.wp
  simp [execOp, hop, hl, hc, hrun, Result.andThen]
  exact hK' _ _ (hK w' r1 r2 r3)
theorem Words.grown {w w' : World} {v : Value} {xs : List Nat} {row : Option Nat} (h : Words w v xs) (k : w.grownBy w' row) (hrow : ∀ g, row = some g → ∃ cs fr, w.heap[g]? = some (.cells cs 5 fr)) : Words w' v xs := by
  obtain ⟨h0, h1, A, cap, h2, h3, h4⟩ := h
  refine ⟨h0, h1, A, cap, h2, h3, fun hne => ?_⟩
  obtain ⟨b, o, cs, fr, e, hb, hc⟩ := h4 hne
  refine ⟨b, o, cs, fr, e, ?_, hc⟩
  rw [k.block b (heap_some_lt hb) fun e2 => ?_]
  · exact hb
  · obtain ⟨cs2, fr2, h5⟩ := hrow b e2.symm
    rw [hb] at h5
    injection h5 with h5
    injection h5 with _ h5
    exact absurd h5 (by decide)
/-- A byte as a value. -/
def bv (x : Nat) : Value := .int .u8 (x : Int)
/-- A row of bytes of the call's own, that may be appended to. -/
def BRow (w : World) (base : Nat) (v : Value) (zs : List Nat) : Prop := B8 zs ∧ w.ownsRow base 5 1 v zs.length (zs.map bv)
theorem BRow.nil (w : World) (base : Nat) : BRow w base (.slice none 0 0) [] := ⟨B8.nil, by simpa using World.ownsRow_nil w base 5 1⟩
theorem BRow.alloc {w : World} {base : Nat} {v : Value} {zs : List Nat} (h : BRow w base v zs) (o : Obj) : BRow (w.alloc o) base v zs := ⟨h.1, h.2.alloc o⟩
theorem BRow.on {w w' : World} {base : Nat} {v : Value} {zs : List Nat} (h : BRow w base v zs) (k : Below w.heap.size w w') : BRow w' base v zs := by
  obtain ⟨h0, h1, h2⟩ := h
  refine ⟨h0, h1, ?_⟩
  rcases h2 with h2 | ⟨g, cap, cur, e, hg, hh, hc⟩
  · exact .inl h2
  · exact .inr ⟨g, cap, cur, e, hg, by rw [k.block g (heap_some_lt hh)]; exact hh, hc⟩
theorem BRow.open_ {w : World} {base : Nat} {v : Value} {zs : List Nat} (h : BRow w base v zs) (h0 : 0 < zs.length) :
    ∃ g cap cs, v = .slice (some ⟨g, 0, none⟩) zs.length cap ∧ base ≤ g ∧ zs.length ≤ cap ∧ w.heap[g]? = some (.cells cs 5 (0, 0)) ∧ ∀ i, i < zs.length → cs[i]? = some (.int .u8 (zs.getD i 0 : Nat)) := by
  obtain ⟨hw, hlen, h2⟩ := h
  rcases h2 with ⟨rfl, h1⟩ | ⟨g, cap, cur, rfl, hg, hh, hc, _, hcs, ht⟩
  · omega
  · refine ⟨g, cap, cur, rfl, hg, hc, hh, fun i hi => ?_⟩
    have h3 : (cur.toList.take (zs.length * 1))[i]? = (zs.map bv)[i]? := by rw [ht]
    rw [List.getElem?_take_of_lt (by omega), List.getElem?_map, List.getElem?_eq_getElem hi] at h3
    rw [← Array.getElem?_toList, h3, getD_in hi]
    rfl
theorem wpList_append_byte {ops : Array Oper} {rest : List Oper} {o : Oper} {a : Act} {w : World} {Q : Exit → Act → World → Prop} (hg : o.guard = none) (s x : Operand)
    (ho : o.op = .call { callee := .builtin .append, args := #[s, x], argTypes := #[116, 116] })
    (base : Nat) (v : Value) (zs : List Nat) (hs : a.eval s = v) (hown : BRow w base v zs) (ad : Addr) (c : Nat) (y : Nat) (n : Int) (hx : a.eval x = .slice (some ad) 1 c) (hcell : w.cell? ad = some (.int .u8 n)) (hn : n = y)
    (hy : y < 256) (hlen : zs.length ≤ 17179869184) (hbase : base ≤ w.heap.size)
    (hK : ∀ v' w', BRow w' base v' (zs ++ [y]) → Below base w w' → (∀ u xs, Words w u xs → Words w' u xs) → wpList Tryz.prog ops Q rest (a.put o.dst v') w') : wpList Tryz.prog ops Q (o :: rest) a w := by
  obtain ⟨i0, hi, hz0, hz1, hz2⟩ := info_parts u8_info
  subst hn
  refine wpList_append_own w hg s x 116 ho base 5 i0 (.int .u8 0) 1 1 Tryz.underlying116 hi hz0 hz1 hz2 rfl (by decide) v zs.length (zs.map bv) hs hown.2 ad 1 c [bv y] hx rfl ?_ ?_ (by simp only [maxLen]; omega) (by omega) hbase ?_
  · intro j u hj
    cases j with
    | zero =>
      simp at hj
      subst hj
      simpa [Addr.add, bv] using hcell
    | succ j => simp at hj
  · intro u hu
    simp at hu
    subst hu
    rfl
  · intro v' w' h1 h2 _
    refine hK v' w' ⟨hown.1.snoc hy, by simpa using h1⟩ ((Below.refl _ _).grown h2 hbase fun k hk => ?_) fun u xs hk => ?_
    · rcases hown.2.2 with ⟨rfl, _⟩ | ⟨g, cap, cur, rfl, hb, _⟩
      · simp [Value.ownBlock] at hk
      · simp [Value.ownBlock] at hk
        omega
    · refine hk.grown h2 fun g hg => ?_
      rcases hown.2.2 with ⟨rfl, _⟩ | ⟨g', cap, cur, rfl, hb, hh, _⟩
      · simp [Value.ownBlock] at hg
      · simp [Value.ownBlock] at hg
        subst hg
        exact ⟨_, _, hh⟩

/-- A block that holds these cells. -/
def BoxAt (w : World) (g : Nat) (cs : Array Value) (t : TypeId) : Prop := w.heap[g]? = some (.cells cs t (0, 0))
theorem BoxAt.new (w : World) (cs : Array Value) (t : TypeId) : BoxAt (w.alloc (.cells cs t)) w.heap.size cs t := heap_alloc_new w _
theorem BoxAt.lt {w : World} {g : Nat} {cs : Array Value} {t : TypeId} (h : BoxAt w g cs t) : g < w.heap.size := heap_some_lt h
theorem BoxAt.on {w w' : World} {g : Nat} {cs : Array Value} {t : TypeId} (h : BoxAt w g cs t) (k : Below w.heap.size w w') : BoxAt w' g cs t := by
  unfold BoxAt
  rw [k.block g h.lt]
  exact h
theorem BoxAt.cell {w : World} {g : Nat} {cs : Array Value} {t : TypeId} (h : BoxAt w g cs t) (i : Nat) (v : Value) (hv : cs[i]? = some v) : w.cell? ⟨g, i, none⟩ = some v := by
  rw [cell_of_row w g i cs _ _ h]
  exact hv
theorem BoxAt.set {w : World} {g : Nat} {cs : Array Value} {t : TypeId} (h : BoxAt w g cs t) (i : Nat) (u : Value) : BoxAt (w.setCell ⟨g, i, none⟩ u) g (cs.setIfInBounds i u) t := by
  unfold BoxAt at h
  unfold BoxAt
  simp [World.setCell, Array.getElem?_modify, h]
theorem BoxAt.frozen {w : World} {g : Nat} {cs : Array Value} {t : TypeId} (h : BoxAt w g cs t) (i : Nat) : w.frozen? ⟨g, i, none⟩ = false := by
  unfold BoxAt at h
  simp [World.frozen?, h]
end Go.Proofs.YtaenedjanckaiaaGreat
