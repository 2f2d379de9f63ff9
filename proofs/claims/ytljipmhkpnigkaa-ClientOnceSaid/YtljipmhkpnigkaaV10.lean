/- A number's bytes, in plain Lean: the shortest row of digits to base 256 behind a byte that tells their count. No program is named. -/
namespace Go.Codec

def digs (n : Nat) : List UInt8 := if n < 256 then [UInt8.ofNat n] else digs (n / 256) ++ [UInt8.ofNat (n % 256)]
termination_by n
decreasing_by omega
def encN (n : Nat) : List UInt8 := if n < 248 then [UInt8.ofNat n] else UInt8.ofNat (247 + (digs n).length) :: digs n
def val (l : List UInt8) : Nat := l.foldl (fun a c => a * 256 + c.toNat) 0
def decN : List UInt8 → Option (Nat × List UInt8)
  | [] => none
  | c :: r => if c.toNat < 248 then some (c.toNat, r) else if r.length < c.toNat - 247 ∨ r.head? = some 0 ∨ val (r.take (c.toNat - 247)) < 248 then none else some (val (r.take (c.toNat - 247)), r.drop (c.toNat - 247))

theorem snoc_ind {P : List UInt8 → Prop} (h0 : P []) (h1 : ∀ l a, P l → P (l ++ [a])) (l : List UInt8) : P l := by
  have : ∀ m : List UInt8, P m.reverse := by
    intro m
    induction m with
    | nil => simpa using h0
    | cons a m ih => simpa using h1 _ a ih
  simpa using this l.reverse
theorem val_snoc (l : List UInt8) (c : UInt8) : val (l ++ [c]) = val l * 256 + c.toNat := by simp [val]
theorem toNat_ofNat {n : Nat} (h : n < 256) : (UInt8.ofNat n).toNat = n := by simp; omega
theorem val_digs (n : Nat) : val (digs n) = n := by
  induction n using Nat.strongRecOn with
  | _ n ih =>
    unfold digs
    split
    · rename_i h
      simp only [val, List.foldl_cons, List.foldl_nil]
      rw [toNat_ofNat h]; omega
    · rename_i h
      rw [val_snoc, ih (n / 256) (by omega), toNat_ofNat (by omega)]
      omega
theorem digs_ne (n : Nat) : digs n ≠ [] := by
  unfold digs
  split <;> simp
theorem digs_head {n : Nat} (h : 1 ≤ n) : ∃ c r, digs n = c :: r ∧ c ≠ 0 := by
  induction n using Nat.strongRecOn with
  | _ n ih =>
    unfold digs
    split
    · rename_i h'
      refine ⟨_, _, rfl, fun h0 => ?_⟩
      have := congrArg UInt8.toNat h0
      rw [toNat_ofNat h'] at this
      simp at this; omega
    · obtain ⟨c, r, hc, h0⟩ := ih (n / 256) (by omega) (by omega)
      rw [hc]
      exact ⟨c, r ++ [UInt8.ofNat (n % 256)], rfl, h0⟩
theorem digs_len {n : Nat} : ∀ {k : Nat}, n < 256 ^ (k + 1) → (digs n).length ≤ k + 1 := by
  induction n using Nat.strongRecOn with
  | _ n ih =>
    intro k hk
    unfold digs
    split
    · simp
    · rename_i h
      cases k with
      | zero => simp at hk; omega
      | succ k =>
        have : n / 256 < 256 ^ (k + 1) := by
          rw [Nat.div_lt_iff_lt_mul (by omega)]
          rw [Nat.pow_succ] at hk; exact hk
        have := ih (n / 256) (by omega) this
        rw [List.length_append, List.length_singleton]; omega
theorem val_lt (l : List UInt8) : val l < 256 ^ l.length := by
  refine snoc_ind (P := fun l => val l < 256 ^ l.length) (by simp [val]) (fun l c ih => ?_) l
  · rw [val_snoc, List.length_append, List.length_singleton, Nat.pow_succ]
    have := c.toNat_lt
    omega
theorem val_ge {c : UInt8} {r : List UInt8} (h : c ≠ 0) : 256 ^ r.length ≤ val (c :: r) := by
  refine snoc_ind (P := fun r => 256 ^ r.length ≤ val (c :: r)) ?_ (fun r d ih => ?_) r
  · have : c.toNat ≠ 0 := fun h' => h (UInt8.toNat_inj.1 (by simpa using h'))
    simp [val]; omega
  · rw [← List.cons_append, val_snoc, List.length_append, List.length_singleton, Nat.pow_succ]
    omega
theorem digs_val {c : UInt8} {r : List UInt8} (h : c ≠ 0) : digs (val (c :: r)) = c :: r := by
  refine snoc_ind (P := fun r => digs (val (c :: r)) = c :: r) ?_ (fun r d ih => ?_) r
  · have hc := c.toNat_lt
    have e : val [c] = c.toNat := by simp [val]
    rw [e]
    unfold digs
    rw [if_pos (by omega)]
    simp
  · have hd := d.toNat_lt
    have hg := val_ge (r := r) h
    have hp : 0 < 256 ^ r.length := Nat.pow_pos (by omega)
    rw [← List.cons_append, val_snoc]
    unfold digs
    rw [if_neg (by omega), show (val (c :: r) * 256 + d.toNat) / 256 = val (c :: r) by omega, show (val (c :: r) * 256 + d.toNat) % 256 = d.toNat by omega, ih]
    simp
theorem dec_enc {n : Nat} (h : n < 18446744073709551616) (r : List UInt8) : decN (encN n ++ r) = some (n, r) := by
  unfold encN
  split
  · rename_i h1
    simp only [List.singleton_append, decN]
    rw [toNat_ofNat (by omega), if_pos h1]
  · rename_i h1
    have hl := digs_len (n := n) (k := 7) (by simpa using h)
    obtain ⟨c, t, hc, h0⟩ := digs_head (n := n) (by omega)
    have hv := val_digs n
    have hp : 0 < (digs n).length := by rw [hc]; simp
    simp only [List.cons_append, decN]
    rw [toNat_ofNat (by omega), if_neg (by omega), show 247 + (digs n).length - 247 = (digs n).length by omega, List.take_left, List.drop_left, hv]
    rw [if_neg]
    simp only [List.length_append, not_or]
    refine ⟨by omega, ?_, by omega⟩
    rw [hc]; simpa using h0
theorem dec_some {l : List UInt8} {n : Nat} {r : List UInt8} (h : decN l = some (n, r)) : l = encN n ++ r ∧ n < 18446744073709551616 := by
  match l, h with
  | c :: t, h =>
    have hc := c.toNat_lt
    simp only [decN] at h
    split at h
    · rename_i h1
      simp only [Option.some.injEq, Prod.mk.injEq] at h
      obtain ⟨rfl, rfl⟩ := h
      refine ⟨?_, by omega⟩
      unfold encN
      rw [if_pos h1]; simp
    · rename_i h1
      split at h
      · cases h
      · rename_i h2
        simp only [not_or] at h2
        obtain ⟨h3, h4, h5⟩ := h2
        simp only [Option.some.injEq, Prod.mk.injEq] at h
        obtain ⟨hn, hr⟩ := h
        have hk : (t.take (c.toNat - 247)).length = c.toNat - 247 := by simp; omega
        match ht : t.take (c.toNat - 247), hk with
        | [], hk => simp at hk; omega
        | d :: u, hk =>
          have hd : d ≠ 0 := by
            intro h0
            apply h4
            have : (t.take (c.toNat - 247)).head? = some d := by rw [ht]; rfl
            rw [List.head?_take, if_neg (by omega)] at this
            rw [this, h0]
          rw [ht] at hn
          have hdv := digs_val (r := u) hd
          rw [hn] at hdv
          have hlt := val_lt (d :: u)
          rw [hn, hk] at hlt
          have hge : ¬ n < 248 := by rw [ht] at h5; omega
          refine ⟨?_, ?_⟩
          · unfold encN
            rw [if_neg hge, hdv, hk, show 247 + (c.toNat - 247) = c.toNat by omega, ← hr, ← ht, List.cons_append, List.take_append_drop]
            simp
          · have : 256 ^ (c.toNat - 247) ≤ 256 ^ 8 := Nat.pow_le_pow_right (by omega) (by omega)
            omega

/-- how many bytes -/
def sz (n : Nat) : Nat := if n = 0 then 0 else sz (n / 256) + 1
termination_by n
decreasing_by omega
theorem sz_zero : sz 0 = 0 := by unfold sz; simp
theorem sz_pos {n : Nat} (h : n ≠ 0) : sz n = sz (n / 256) + 1 := by
  rw [sz, if_neg h]
theorem sz_le : ∀ (k : Nat) {n : Nat}, n < 256 ^ k → sz n ≤ k
  | 0, n, h => by
    have : n = 0 := by simpa using h
    rw [this, sz_zero]; omega
  | k + 1, n, h => by
    by_cases h0 : n = 0
    · rw [h0, sz_zero]; omega
    · rw [sz_pos h0]
      have : n / 256 < 256 ^ k := by
        rw [Nat.div_lt_iff_lt_mul (by omega)]
        rw [Nat.pow_succ] at h; exact h
      have := sz_le k this
      omega
theorem digs_sz {n : Nat} (h : n ≠ 0) : (digs n).length = sz n := by
  induction n using Nat.strongRecOn with
  | _ n ih =>
    unfold digs
    rw [sz_pos h]
    split
    · rename_i h'
      rw [show n / 256 = 0 by omega, sz_zero]; rfl
    · rw [List.length_append, ih (n / 256) (by omega) (by omega)]; rfl
theorem lt_sz : ∀ {i n : Nat}, i < sz n → 1 ≤ n / 256 ^ i
  | 0, n, h => by
    by_cases h0 : n = 0
    · rw [h0, sz_zero] at h; omega
    · simp; omega
  | i + 1, n, h => by
    by_cases h0 : n = 0
    · rw [h0, sz_zero] at h; omega
    · rw [sz_pos h0] at h
      have := lt_sz (i := i) (n := n / 256) (by omega)
      rwa [Nat.div_div_eq_div_mul, Nat.mul_comm, ← Nat.pow_succ] at this
theorem ge_sz : ∀ {i n : Nat}, sz n ≤ i → n / 256 ^ i = 0
  | 0, n, h => by
    by_cases h0 : n = 0
    · simp [h0]
    · rw [sz_pos h0] at h; omega
  | i + 1, n, h => by
    by_cases h0 : n = 0
    · simp [h0]
    · rw [sz_pos h0] at h
      have := ge_sz (i := i) (n := n / 256) (by omega)
      rwa [Nat.div_div_eq_div_mul, Nat.mul_comm, ← Nat.pow_succ] at this
/-- the digits from the top down to the i-th -/
def ds (n i : Nat) : List UInt8 := if n / 256 ^ i = 0 then [] else digs (n / 256 ^ i)
theorem ds_top (n : Nat) : ds n (sz n) = [] := by unfold ds; rw [if_pos (ge_sz (Nat.le_refl _))]
theorem ds_zero {n : Nat} (h : n ≠ 0) : ds n 0 = digs n := by unfold ds; simp [h]
theorem ds_step {n i : Nat} (h : i < sz n) : ds n i = ds n (i + 1) ++ [UInt8.ofNat (n / 256 ^ i % 256)] := by
  have h1 := lt_sz h
  have h2 : n / 256 ^ (i + 1) = n / 256 ^ i / 256 := by rw [Nat.div_div_eq_div_mul, Nat.pow_succ]
  unfold ds
  rw [if_neg (by omega), h2]
  generalize n / 256 ^ i = m at h1
  conv => lhs; unfold digs
  by_cases hm : m < 256
  · rw [if_pos hm, if_pos (by omega), Nat.mod_eq_of_lt hm]; rfl
  · rw [if_neg hm, if_neg (by omega)]
theorem ds_len {n i : Nat} (h : i ≤ sz n) : (ds n i).length = sz n - i := by
  obtain ⟨j, hj⟩ := Nat.le.dest h
  induction j generalizing i with
  | zero => rw [show i = sz n by omega, ds_top]; simp
  | succ j ih =>
    rw [ds_step (by omega), List.length_append, ih (i := i + 1) (by omega) (by omega), List.length_singleton]; omega
theorem encN_len {n : Nat} (h : n < 18446744073709551616) : (encN n).length ≤ 9 := by
  have := digs_len (n := n) (k := 7) (by simpa using h)
  unfold encN
  split <;> simp <;> omega
theorem encN_pos (n : Nat) : 1 ≤ (encN n).length := by
  unfold encN
  split <;> simp
/- Numbers from -1 on, texts; and what stands ahead of bytes -/
def encI (n : Int) : List UInt8 := if n < -1 ∨ 1099511627776 < n then [] else encN (n + 1).toNat
def encT (l : List UInt8) : List UInt8 := encN l.length ++ l
def rdN (l : List UInt8) : Nat × List UInt8 × Bool := match decN l with
  | some (n, r) => (n, r, true)
  | none => (0, [], false)
def unN (l : List UInt8) : Int × List UInt8 × Bool := if (rdN l).2.2 = false ∨ 1099511627777 < (rdN l).1 then (0, [], false) else (((rdN l).1 : Int) - 1, (rdN l).2.1, true)
def cutN (l : List UInt8) : List UInt8 × List UInt8 × Bool := if (rdN l).2.2 = false ∨ (rdN l).2.1.length < (rdN l).1 then ([], [], false) else ((rdN l).2.1.take (rdN l).1, (rdN l).2.1.drop (rdN l).1, true)
theorem rdN_len (l : List UInt8) : (rdN l).2.1.length ≤ l.length := by
  unfold rdN
  split
  · rename_i n r h
    rw [(dec_some h).1]; simp
  · simp
theorem rd_enc {n : Nat} (h : n < 18446744073709551616) (r : List UInt8) : rdN (encN n ++ r) = (n, r, true) := by unfold rdN; rw [dec_enc h]
theorem rd_some {l : List UInt8} (h : (rdN l).2.2 = true) : l = encN (rdN l).1 ++ (rdN l).2.1 ∧ (rdN l).1 < 18446744073709551616 := by
  unfold rdN at h ⊢
  cases hd : decN l with
  | none => rw [hd] at h; cases h
  | some x => exact dec_some hd
theorem rd_none {l : List UInt8} (h : (rdN l).2.2 = false) : rdN l = (0, [], false) := by
  unfold rdN at h ⊢
  cases hd : decN l with
  | none => rfl
  | some x => rw [hd] at h; cases h
theorem un_enc {n : Int} (h : -1 ≤ n) (h' : n ≤ 1099511627776) (r : List UInt8) : unN (encI n ++ r) = (n, r, true) := by
  have e : encI n = encN (n + 1).toNat := by unfold encI; rw [if_neg (by omega)]
  unfold unN
  rw [e, rd_enc (by omega), if_neg (by simp; omega)]
  simp; omega
theorem un_some {l : List UInt8} (h : (unN l).2.2 = true) : l = encI (unN l).1 ++ (unN l).2.1 ∧ -1 ≤ (unN l).1 ∧ (unN l).1 ≤ 1099511627776 := by
  unfold unN at h ⊢
  split at h
  · cases h
  · rename_i hh
    rw [if_neg hh]
    simp only [not_or, Bool.not_eq_false, Nat.not_lt] at hh
    obtain ⟨h1, h2⟩ := rd_some hh.1
    refine ⟨?_, by simp only; omega, by simp only; omega⟩
    conv => lhs; rw [h1]
    unfold encI
    rw [if_neg (by simp; omega)]
    simp
theorem un_none {l : List UInt8} (h : (unN l).2.2 = false) : unN l = (0, [], false) := by
  unfold unN at h ⊢
  split at h
  · rename_i hh; rw [if_pos hh]
  · cases h
theorem cut_enc {t : List UInt8} (h : t.length < 18446744073709551616) (r : List UInt8) : cutN (encT t ++ r) = (t, r, true) := by
  unfold encT cutN
  rw [List.append_assoc, rd_enc h, if_neg (by simp)]
  simp
theorem cut_some {l : List UInt8} (h : (cutN l).2.2 = true) : l = encT (cutN l).1 ++ (cutN l).2.1 := by
  unfold cutN at h ⊢
  split at h
  · cases h
  · rename_i hh
    rw [if_neg hh]
    simp only [not_or, Bool.not_eq_false, Nat.not_lt] at hh
    obtain ⟨h1, h2⟩ := rd_some hh.1
    conv => lhs; rw [h1]
    unfold encT
    simp only [List.length_take, Nat.min_eq_left hh.2, List.append_assoc, List.take_append_drop]
theorem cut_none {l : List UInt8} (h : (cutN l).2.2 = false) : cutN l = ([], [], false) := by
  unfold cutN at h ⊢
  split at h
  · rename_i hh; rw [if_pos hh]
  · cases h
theorem cut_len (l : List UInt8) : (cutN l).1.length ≤ l.length ∧ (cutN l).2.1.length ≤ l.length := by
  have := rdN_len l
  unfold cutN
  split
  · simp
  · simp; omega
theorem un_len (l : List UInt8) : (unN l).2.1.length ≤ l.length := by
  have := rdN_len l
  unfold unN
  split
  · simp
  · simpa using this
theorem un_in (l : List UInt8) : -1 ≤ (unN l).1 ∧ (unN l).1 ≤ 1099511627776 := by
  cases h : (unN l).2.2 with
  | true => exact (un_some h).2
  | false => rw [un_none h]; omega
theorem encI_len (n : Int) : (encI n).length ≤ 9 := by
  unfold encI
  split
  · simp
  · exact encN_len (by omega)
theorem encT_len {l : List UInt8} (h : l.length < 18446744073709551616) : (encT l).length ≤ 9 + l.length := by
  have := encN_len h
  unfold encT; simp; omega
theorem encI_pos {n : Int} (h : -1 ≤ n) (h' : n ≤ 1099511627776) : 1 ≤ (encI n).length := by
  unfold encI
  rw [if_neg (by omega)]
  exact encN_pos _
/-- what stands ahead is told by the bytes alone -/
theorem encI_inj {a b : Int} {r s : List UInt8} (ha : -1 ≤ a) (ha' : a ≤ 1099511627776) (hb : -1 ≤ b) (hb' : b ≤ 1099511627776) (h : encI a ++ r = encI b ++ s) : a = b ∧ r = s := by
  have h1 := un_enc ha ha' r
  rw [h, un_enc hb hb' s] at h1
  simp only [Prod.mk.injEq, and_true] at h1
  exact ⟨h1.1.symm, h1.2.symm⟩
theorem encT_inj {a b : List UInt8} {r s : List UInt8} (ha : a.length < 18446744073709551616) (hb : b.length < 18446744073709551616) (h : encT a ++ r = encT b ++ s) : a = b ∧ r = s := by
  have h1 := cut_enc ha r
  rw [h, cut_enc hb s] at h1
  simp only [Prod.mk.injEq, and_true] at h1
  exact ⟨h1.1.symm, h1.2.symm⟩
theorem encN_inj {a b : Nat} {r s : List UInt8} (ha : a < 18446744073709551616) (hb : b < 18446744073709551616) (h : encN a ++ r = encN b ++ s) : a = b ∧ r = s := by
  have h1 := rd_enc ha r
  rw [h, rd_enc hb s] at h1
  simp only [Prod.mk.injEq, and_true] at h1
  exact ⟨h1.1.symm, h1.2.symm⟩
/- of what is cut off nothing is told -/
theorem rd_cutoff {n : Nat} (h : n < 18446744073709551616) {i : Nat} (hi : i < (encN n).length) : (rdN ((encN n).take i)).2.2 = false := by
  cases hh : (rdN ((encN n).take i)).2.2 with
  | false => rfl
  | true =>
    exfalso
    obtain ⟨g1, g2⟩ := rd_some hh
    have g4 : encN n ++ [] = encN (rdN ((encN n).take i)).1 ++ ((rdN ((encN n).take i)).2.1 ++ (encN n).drop i) := by rw [← List.append_assoc, ← g1, List.take_append_drop, List.append_nil]
    have g6 := congrArg List.length (encN_inj h g2 g4).2
    simp at g6
    omega
theorem un_cutoff {n : Int} (h : -1 ≤ n) (h' : n ≤ 1099511627776) {i : Nat} (hi : i < (encI n).length) : (unN ((encI n).take i)).2.2 = false := by
  cases hh : (unN ((encI n).take i)).2.2 with
  | false => rfl
  | true =>
    exfalso
    obtain ⟨g1, g2, g3⟩ := un_some hh
    have g4 : encI n ++ [] = encI (unN ((encI n).take i)).1 ++ ((unN ((encI n).take i)).2.1 ++ (encI n).drop i) := by rw [← List.append_assoc, ← g1, List.take_append_drop, List.append_nil]
    have g6 := congrArg List.length (encI_inj h h' g2 g3 g4).2
    simp at g6
    omega
theorem cut_cutoff {t : List UInt8} (h : t.length < 1099511627776) {i : Nat} (hi : i < (encT t).length) : (cutN ((encT t).take i)).2.2 = false := by
  cases hh : (cutN ((encT t).take i)).2.2 with
  | false => rfl
  | true =>
    exfalso
    have g1 := cut_some hh
    have gl := (cut_len ((encT t).take i)).1
    have ge := encT_len (l := t) (by omega)
    rw [List.length_take] at gl
    have g4 : encT t ++ [] = encT (cutN ((encT t).take i)).1 ++ ((cutN ((encT t).take i)).2.1 ++ (encT t).drop i) := by rw [← List.append_assoc, ← g1, List.take_append_drop, List.append_nil]
    have g6 := congrArg List.length (encT_inj (by omega) (by omega) g4).2
    simp at g6
    omega
end Go.Codec
