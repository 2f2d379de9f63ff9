/- Texts cut in pieces: the plain law. No program is named. -/
import Derived.Test.YtdiejbojobbboaaV9
namespace Go.Tr

/-- how many pieces of so many bytes a text of so many has -/
def cnt (size len : Nat) : Nat := if len / size * size < len ∨ len / size = 0 then len / size + 1 else len / size
def pieceOf (size : Nat) (l : List UInt8) (i : Nat) : List UInt8 := (l.drop (i * size)).take size
def firstOf (size : Nat) (l : List UInt8) (k : Nat) : List (List UInt8) := (List.range k).map (pieceOf size l)
def pieces (size : Nat) (l : List UInt8) : List (List UInt8) := firstOf size l (cnt size l.length)

theorem cnt_pos (size len : Nat) : 1 ≤ cnt size len := by unfold cnt; generalize len / size = q; split <;> omega
theorem cnt_le (size len : Nat) : cnt size len ≤ len / size + 1 := by unfold cnt; generalize len / size = q; split <;> omega
theorem div_lo (size len : Nat) : len / size * size ≤ len := Nat.div_mul_le_self _ _
theorem div_hi {size : Nat} (len : Nat) (hs : 1 ≤ size) : len < len / size * size + size := by
  have := Nat.lt_mul_div_succ len (show 0 < size by omega)
  rw [Nat.mul_comm, Nat.succ_mul] at this; exact this
/-- there is a piece of this number -/
theorem lt_cnt {size len k : Nat} (hs : 1 ≤ size) : k < cnt size len ↔ k * size < len ∨ k = 0 := by
  have h1 := div_lo size len
  have h2 := div_hi len hs
  have mono : ∀ {a b : Nat}, a ≤ b → a * size ≤ b * size := fun h => Nat.mul_le_mul_right _ h
  unfold cnt
  have e : ∀ a : Nat, (a + 1) * size = a * size + size := fun a => Nat.succ_mul a size
  generalize len / size = q at *
  constructor
  · intro h
    rcases Nat.eq_zero_or_pos k with h0 | h0
    · exact .inr h0
    · left
      split at h
      · rcases Nat.lt_or_ge k q with hk | hk
        · have h3 := mono (show k + 1 ≤ q by omega)
          rw [e] at h3; omega
        · have : k = q := by omega
          subst this; omega
      · have h3 := mono (show k + 1 ≤ q by omega)
        rw [e] at h3; omega
  · intro h
    rcases h with h | h
    · split
      · rcases Nat.lt_or_ge q k with hk | hk
        · have h3 := mono (show q + 1 ≤ k by omega)
          rw [e] at h3; omega
        · omega
      · rcases Nat.lt_or_ge k q with hk | hk
        · exact hk
        · have h3 := mono hk; omega
    · subst h
      split <;> omega
theorem cnt_size {size len : Nat} (hs : 1 ≤ size) : len ≤ cnt size len * size := by
  have h1 := (lt_cnt (len := len) hs (k := cnt size len)).2
  rcases Nat.lt_or_ge (cnt size len * size) len with h | h
  · exact absurd (h1 (.inl h)) (Nat.lt_irrefl _)
  · exact h
theorem cnt_few {size len m : Nat} (hs : 1 ≤ size) (h : len ≤ size * m) (hm : 1 ≤ m) : cnt size len ≤ m := by
  rcases Nat.lt_or_ge m (cnt size len) with h1 | h1
  · rcases (lt_cnt hs).1 h1 with h2 | h2
    · rw [Nat.mul_comm] at h2; omega
    · omega
  · exact h1
theorem cnt_many {size len m : Nat} (hs : 1 ≤ size) (h : size * m < len) : m < cnt size len := (lt_cnt hs).2 (.inl (by rw [Nat.mul_comm]; exact h))
theorem firstOf_len (size : Nat) (l : List UInt8) (k : Nat) : (firstOf size l k).length = k := by simp [firstOf]
theorem firstOf_succ (size : Nat) (l : List UInt8) (k : Nat) : firstOf size l (k + 1) = firstOf size l k ++ [pieceOf size l k] := by simp [firstOf, List.range_succ]
theorem firstOf_at {size : Nat} {l : List UInt8} {k i : Nat} (h : i < k) : (firstOf size l k)[i]? = some (pieceOf size l i) := by simp [firstOf, h]
theorem firstOf_take {size : Nat} {l : List UInt8} {k i : Nat} (h : i ≤ k) : (firstOf size l k).take i = firstOf size l i := by
  apply List.ext_getElem?
  intro j
  rcases Nat.lt_or_ge j i with hj | hj
  · rw [List.getElem?_take_of_lt hj, firstOf_at (by omega), firstOf_at hj]
  · rw [List.getElem?_eq_none (by simp [firstOf_len]; omega), List.getElem?_eq_none (by simp [firstOf_len]; omega)]
theorem firstOf_flat (size : Nat) (l : List UInt8) : ∀ k, (firstOf size l k).flatten = l.take (k * size)
  | 0 => by simp [firstOf]
  | k + 1 => by rw [firstOf_succ, List.flatten_append, firstOf_flat size l k, Nat.succ_mul, List.take_add]; simp [pieceOf]
/-- all pieces, one behind the other, are the text -/
theorem pieces_flat {size : Nat} (l : List UInt8) (hs : 1 ≤ size) : (pieces size l).flatten = l := by
  unfold pieces
  rw [firstOf_flat, List.take_of_length_le (cnt_size hs)]
theorem pieces_len (size : Nat) (l : List UInt8) : (pieces size l).length = cnt size l.length := firstOf_len _ _ _
theorem pieces_at {size i : Nat} {l : List UInt8} (h : i < cnt size l.length) : (pieces size l)[i]? = some (pieceOf size l i) := firstOf_at h
theorem pieceOf_len (size : Nat) (l : List UInt8) (i : Nat) : (pieceOf size l i).length ≤ size := by simp [pieceOf]; omega
theorem pieceOf_len' (size : Nat) (l : List UInt8) (i : Nat) : (pieceOf size l i).length ≤ l.length := by simp [pieceOf]; omega
/-- from here to there, as Go cuts it -/
theorem pieceOf_cut (size : Nat) (l : List UInt8) (i : Nat) : pieceOf size l i = (l.take (min (i * size + size) l.length)).drop (i * size) := by
  unfold pieceOf
  rw [List.drop_take]
  rcases Nat.lt_or_ge (i * size + size) l.length with h | h
  · rw [Nat.min_eq_left (by omega), Nat.add_sub_cancel_left]
  · rw [Nat.min_eq_right h, List.take_of_length_le (l := l.drop (i * size)) (i := size) (by simp; omega), List.take_of_length_le (by simp)]

/-- as many rounds as there are windows of pieces, and one -/
theorem rounds_do {size w len : Nat} (hw : 1 ≤ w) : cnt size len ≤ (len / size / w + 2) * w := by
  have h1 := cnt_le size len
  have h2 := div_hi (len / size) hw
  rw [Nat.add_mul]
  omega
end Go.Tr
