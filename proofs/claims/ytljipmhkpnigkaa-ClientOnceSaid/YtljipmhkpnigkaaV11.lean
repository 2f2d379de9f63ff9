/- Operations and their bytes, in plain Lean. No program is named. -/
import Derived.Test.YtljipmhkpnigkaaV10
namespace Go.Codec

structure Opn where
  kind : Int
  key : List UInt8
  val : List UInt8
  ver : Int
  deriving DecidableEq
def Opn.none : Opn := ⟨0, [], [], 0⟩
def valued (k : Int) : Bool := decide (k = 2 ∨ k = 4)
def chkO (o : Opn) : Int :=
  if o.kind < 1 ∨ 4 < o.kind ∨ o.key = [] ∨ o.ver < 0 ∨ 4096 < o.ver ∨ (o.ver ≠ 0 ∧ o.kind ≠ 4) ∨ (o.val ≠ [] ∧ o.kind ≠ 2 ∧ o.kind ≠ 4) then 2
  else if 16 < o.key.length ∨ 64 < o.val.length then 3 else 0
def costO (o : Opn) : Int := if chkO o ≠ 0 then 0 else 16 + o.key.length + o.val.length
def readsO (o : Opn) : Bool := decide (o.kind = 1 ∧ chkO o = 0)
def encO (o : Opn) : List UInt8 := encI o.kind ++ (encT o.key ++ ((if o.kind = 2 ∨ o.kind = 4 then encT o.val else []) ++ (if o.kind = 4 then encI o.ver else [])))
def putO (o : Opn) : List UInt8 × Int := if chkO o ≠ 0 then ([], chkO o) else (encO o, 0)
def valCut (k : Int) (l : List UInt8) : List UInt8 × List UInt8 × Bool := if k = 2 ∨ k = 4 then cutN l else ([], l, true)
def verUn (k : Int) (l : List UInt8) : Int × List UInt8 × Bool := if k = 4 then unN l else (0, l, true)
/-- what the bytes say, and what is left of them; did all stand there? -/
def opOf (s : List UInt8) : Opn × List UInt8 × Bool :=
  let x := unN s
  let y := cutN x.2.1
  let z := valCut x.1 y.2.1
  let v := verUn x.1 z.2.1
  (⟨x.1, y.1, z.1, v.1⟩, v.2.1, x.2.2 && y.2.2 && z.2.2 && v.2.2)
def getO (s : List UInt8) : Opn × Int := if (opOf s).2.2 = false ∨ (opOf s).2.1 ≠ [] ∨ chkO (opOf s).1 ≠ 0 then (.none, 10) else ((opOf s).1, 0)

theorem chkO_ok {o : Opn} (h : chkO o = 0) : 1 ≤ o.kind ∧ o.kind ≤ 4 ∧ o.key ≠ [] ∧ 0 ≤ o.ver ∧ o.ver ≤ 4096 ∧ (o.kind ≠ 4 → o.ver = 0) ∧ (o.kind ≠ 2 → o.kind ≠ 4 → o.val = []) ∧ o.key.length ≤ 16 ∧ o.val.length ≤ 64 := by
  unfold chkO at h
  split at h
  · cases h
  · split at h
    · cases h
    · rename_i h1 h2
      simp only [not_or, not_and] at h1 h2
      obtain ⟨a, b, c, d, e, f, g⟩ := h1
      refine ⟨by omega, by omega, c, by omega, by omega, fun hk => ?_, fun hk hk' => ?_, by omega, by omega⟩
      · by_cases hv : o.ver = 0
        · exact hv
        · exact absurd hk (f hv)
      · by_cases hv : o.val = []
        · exact hv
        · exact absurd hk' (g hv hk)
theorem chkO_in (o : Opn) : chkO o = 0 ∨ chkO o = 2 ∨ chkO o = 3 := by
  unfold chkO
  split
  · simp
  · split <;> simp
theorem opOf_enc {o : Opn} (h : chkO o = 0) (r : List UInt8) : opOf (encO o ++ r) = (o, r, true) := by
  obtain ⟨h1, h2, h3, h4, h5, h6, h7, h8, h9⟩ := chkO_ok h
  obtain ⟨k, key, v, ver⟩ := o
  simp only at h1 h2 h3 h4 h5 h6 h7 h8 h9
  unfold opOf encO
  simp only [List.append_assoc]
  rw [un_enc (by omega) (by omega)]
  simp only
  rw [cut_enc (by omega)]
  simp only [valCut, verUn]
  by_cases hv : k = 2 ∨ k = 4
  · rw [if_pos hv, if_pos hv, cut_enc (by omega)]
    simp only
    by_cases hk : k = 4
    · rw [if_pos hk, if_pos hk, un_enc (by omega) (by omega)]
      simp
    · rw [if_neg hk, if_neg hk, h6 hk]
      simp
  · rw [if_neg hv, if_neg hv]
    simp only [not_or] at hv
    rw [if_neg hv.2, if_neg hv.2, h6 hv.2, h7 hv.1 hv.2]
    simp
theorem opOf_some {s : List UInt8} (h : (opOf s).2.2 = true) : s = encO (opOf s).1 ++ (opOf s).2.1 := by
  unfold opOf at h ⊢
  simp only [Bool.and_eq_true] at h ⊢
  obtain ⟨⟨⟨h1, h2⟩, h3⟩, h4⟩ := h
  unfold encO
  simp only
  have e1 := (un_some h1).1
  have e2 := cut_some h2
  have e3 : (cutN (unN s).2.1).2.1 = (if (unN s).1 = 2 ∨ (unN s).1 = 4 then encT (valCut (unN s).1 (cutN (unN s).2.1).2.1).1 else []) ++ (valCut (unN s).1 (cutN (unN s).2.1).2.1).2.1 := by
    unfold valCut at h3 ⊢
    split
    · rename_i hv; rw [if_pos hv] at h3; exact cut_some h3
    · simp
  have e4 : (valCut (unN s).1 (cutN (unN s).2.1).2.1).2.1 = (if (unN s).1 = 4 then encI (verUn (unN s).1 (valCut (unN s).1 (cutN (unN s).2.1).2.1).2.1).1 else []) ++ (verUn (unN s).1 (valCut (unN s).1 (cutN (unN s).2.1).2.1).2.1).2.1 := by
    unfold verUn at h4 ⊢
    split
    · rename_i hv; rw [if_pos hv] at h4; exact (un_some h4).1
    · simp
  conv => lhs; rw [e1, e2, e3, e4]
  simp only [List.append_assoc]
theorem encO_inj {a b : Opn} {r s : List UInt8} (ha : chkO a = 0) (hb : chkO b = 0) (h : encO a ++ r = encO b ++ s) : a = b ∧ r = s := by
  have h1 := opOf_enc ha r
  rw [h, opOf_enc hb s] at h1
  simp only [Prod.mk.injEq, and_true] at h1
  exact ⟨h1.1.symm, h1.2.symm⟩
theorem encO_pos {o : Opn} (h : chkO o = 0) : 1 ≤ (encO o).length := by
  obtain ⟨h1, h2, _⟩ := chkO_ok h
  have := encI_pos (n := o.kind) (by omega) (by omega)
  unfold encO; simp only [List.length_append]; omega
theorem encO_len {o : Opn} (h : chkO o = 0) : (encO o).length ≤ 116 := by
  obtain ⟨h1, h2, h3, h4, h5, h6, h7, h8, h9⟩ := chkO_ok h
  have a := encI_len o.kind
  have b := encT_len (l := o.key) (by omega)
  have c := encT_len (l := o.val) (by omega)
  have d := encI_len o.ver
  unfold encO
  simp only [List.length_append]
  split <;> split <;> simp <;> omega
/-- the bytes are an operation's if they are what it puts -/
theorem getO_iff {s : List UInt8} {o : Opn} : getO s = (o, 0) ↔ chkO o = 0 ∧ s = encO o := by
  constructor
  · intro h
    unfold getO at h
    split at h
    · cases h
    · rename_i hh
      simp only [not_or, Bool.not_eq_false, Decidable.not_not] at hh
      obtain ⟨h1, h2, h3⟩ := hh
      simp only [Prod.mk.injEq, and_true] at h
      subst h
      refine ⟨h3, ?_⟩
      have := opOf_some h1
      rw [h2, List.append_nil] at this
      exact this
  · rintro ⟨h1, rfl⟩
    have := opOf_enc h1 []
    rw [List.append_nil] at this
    unfold getO
    rw [this, if_neg (by simp [h1])]
theorem getO_no {s : List UInt8} (h : (getO s).2 ≠ 0) : getO s = (.none, 10) := by
  unfold getO at h ⊢
  split
  · rfl
  · rename_i hh; rw [if_neg hh] at h; exact absurd rfl h
theorem getO_cases (s : List UInt8) : getO s = (.none, 10) ∨ (chkO (getO s).1 = 0 ∧ s = encO (getO s).1 ∧ (getO s).2 = 0) := by
  by_cases h : (getO s).2 = 0
  · have := getO_iff.1 (show getO s = ((getO s).1, 0) by rw [← h])
    exact .inr ⟨this.1, this.2, h⟩
  · exact .inl (getO_no h)
theorem getO_put {o : Opn} (h : chkO o = 0) : getO (encO o) = (o, 0) := getO_iff.2 ⟨h, rfl⟩
/-- what is cut off, or has something behind it, is none -/
theorem getO_cut {o : Opn} (h : chkO o = 0) {i : Nat} (hi : i < (encO o).length) : getO ((encO o).take i) = (.none, 10) := by
  rcases getO_cases ((encO o).take i) with h1 | ⟨h1, h2, _⟩
  · exact h1
  · exfalso
    have h3 : encO o ++ [] = encO (getO ((encO o).take i)).1 ++ (encO o).drop i := by rw [← h2, List.take_append_drop, List.append_nil]
    have := congrArg List.length (encO_inj h h1 h3).2
    simp at this; omega
theorem getO_more {o : Opn} (h : chkO o = 0) {x : List UInt8} (hx : x ≠ []) : getO (encO o ++ x) = (.none, 10) := by
  rcases getO_cases (encO o ++ x) with h1 | ⟨h1, h2, _⟩
  · exact h1
  · exfalso
    exact hx (encO_inj (s := []) h h1 (by rw [List.append_nil]; exact h2)).2

/-- the document's reading: what all seems to say, if that one's bytes are these -/
def opSeems (s : List UInt8) : Opn :=
  let x := unN s
  let y := cutN x.2.1
  let z := cutN y.2.1
  let v := unN z.2.1
  ⟨x.1, y.1, if x.1 = 2 ∨ x.1 = 4 then z.1 else [], if x.1 = 4 then v.1 else 0⟩
def rgetO (s : List UInt8) : Opn × Int := if (putO (opSeems s)).2 ≠ 0 ∨ (putO (opSeems s)).1 ≠ s then (.none, 10) else (opSeems s, 0)
theorem opSeems_of {s : List UInt8} (hc : chkO (opOf s).1 = 0) : opSeems s = (opOf s).1 := by
  obtain ⟨h1, h2, h3, h4, h5, h6, h7, h8, h9⟩ := chkO_ok hc
  unfold opOf at h1 h2 h6 h7 ⊢
  unfold opSeems
  simp only [valCut, verUn] at *
  by_cases hv : (unN s).1 = 2 ∨ (unN s).1 = 4
  · simp only [if_pos hv]
    by_cases hk : (unN s).1 = 4
    · simp only [if_pos hk]
    · simp only [if_neg hk]
  · simp only [not_or] at hv
    simp only [if_neg hv.2]
    rw [if_neg (by omega), if_neg (by omega)]
theorem rgetO_eq (s : List UInt8) : rgetO s = getO s := by
  unfold rgetO
  split
  · rename_i h
    rcases getO_cases s with h1 | ⟨h1, h2, h3⟩
    · exact h1.symm
    · exfalso
      have e := opOf_enc h1 []
      rw [List.append_nil, ← h2] at e
      have hs := opSeems_of (s := s) (by rw [e]; exact h1)
      rw [e] at hs
      simp only at hs
      rw [hs] at h
      unfold putO at h
      rw [if_neg (by simp [h1])] at h
      rcases h with h | h
      · exact h rfl
      · exact h h2.symm
  · rename_i h
    simp only [not_or, Decidable.not_not] at h
    obtain ⟨h1, h2⟩ := h
    have hc : chkO (opSeems s) = 0 := by
      unfold putO at h1
      split at h1
      · exact h1
      · rename_i hh; simpa using hh
    have : s = encO (opSeems s) := by
      unfold putO at h2
      rw [if_neg (by simp [hc])] at h2
      exact h2.symm
    exact (getO_iff.2 ⟨hc, this⟩).symm
end Go.Codec
