/- Whatever is lost, doubled, or turned about: the plain law of transfer. -/
import Derived.Test.YtdiejbojobbboaaT5
namespace Go.Proofs.Ytdiejbojobbboaa
open Go.Vc Go.Tr

structure Inv (s0 s : Snd) (r : Rcv) (got sent : Nat) (mail : List Pc) (told : List Int) : Prop where
  s0ok : okN s0
  s0id : s0.id = 7
  ok : okN s
  same : s.id = s0.id ∧ s.size = s0.size ∧ s.text = s0.text
  rok : okR r
  ps : r.ps = firstOf s0.size s0.text got
  rid : (r.id = 7 ∧ r.total = s0.total) ∨ (r.id = 0 ∧ r.total = 0 ∧ got = 0)
  le : got ≤ sent
  few : sent ≤ s0.total
  mail : ∀ p ∈ mail, ∃ i, i < sent ∧ p = pcN s0 i
  told : ∀ t ∈ told, 0 ≤ t ∧ t ≤ got
  known : s.got ≤ got
  snt : s.sent ≤ sent
section
variable {s0 s : Snd} {r : Rcv} {got sent : Nat} {mail : List Pc} {told : List Int}
theorem Inv.total (h : Inv s0 s r got sent mail told) : s.total = s0.total := by show cnt _ _ = cnt _ _; rw [h.same.2.1, h.same.2.2]
theorem Inv.pc (h : Inv s0 s r got sent mail told) (i : Nat) : pcN s i = pcN s0 i := by
  unfold pcN; rw [h.total, h.same.1, h.same.2.1, h.same.2.2]
theorem Inv.len (h : Inv s0 s r got sent mail told) : r.ps.length = got := by rw [h.ps, firstOf_len]
theorem Inv.next (h : Inv s0 s r got sent mail told) (hc : canN s) : outN s = pcN s0 s.sent ∧ Inv s0 (nextN s) r got (max sent (s.sent + 1)) (mail ++ [pcN s0 s.sent]) told := by
  have e : nextN s = ⟨s.id, s.size, s.text, s.window, s.got, s.sent + 1⟩ := by unfold nextN; rw [if_pos hc]
  have hlt : s.sent < s.total := by unfold canN at hc; omega
  have ht := h.total
  have h1 := h.few; have h2 := h.le; have h3 := h.snt; have h4 := h.known
  refine ⟨by unfold outN; rw [if_pos hc, h.pc], h.s0ok, h.s0id, nextN_ok h.ok, by rw [e]; exact h.same, h.rok, h.ps, h.rid, by omega, by omega, fun p hp => ?_, h.told, by rw [e]; exact h4, by rw [e]; show s.sent + 1 ≤ _; omega⟩
  rcases List.mem_append.1 hp with hp | hp
  · obtain ⟨i, hi, rfl⟩ := h.mail p hp
    exact ⟨i, by omega, rfl⟩
  · rw [List.mem_singleton] at hp
    exact ⟨s.sent, by omega, hp⟩
theorem Inv.stay (h : Inv s0 s r got sent mail told) (hc : ¬ canN s) : Inv s0 (nextN s) r got sent mail told := by
  rw [show nextN s = s by unfold nextN; rw [if_neg hc]]; exact h
theorem Inv.take (h : Inv s0 s r got sent mail told) {x : Pc} (hx : x ∈ mail) : (takeR r x).id = 7 ∧ (got ≤ (takeR r x).ps.length ∧ (takeR r x).ps.length ≤ got + 1) ∧ (takeR r x).ps.length ≤ sent ∧ Inv s0 s (takeR r x) (takeR r x).ps.length sent mail (told ++ [((takeR r x).ps.length : Int)]) := by
  obtain ⟨i, hi, rfl⟩ := h.mail x hx
  have h1 := h.few; have h2 := h.le; have h3 := h.s0ok.few; have h4 := pieceOf_len s0.size s0.text i; have h5 := h.s0ok.size; have h6 := h.s0id
  have hmay : mayR r (pcN s0 i) := by
    refine ⟨?_, ⟨?_, ?_⟩, ⟨?_, ?_⟩, ?_, ?_⟩
    · show max r.id 1 ≤ s0.id
      rcases h.rid with h | h <;> omega
    · show 1 ≤ (s0.total : Int); omega
    · show (s0.total : Int) ≤ 4096; omega
    · show 0 ≤ (i : Int); omega
    · show (i : Int) ≤ (s0.total : Int) - 1; omega
    · show (pieceOf s0.size s0.text i).length ≤ 512; omega
    · rcases h.rid with h | h
      · exact .inr h.2.symm
      · exact .inl (by show r.id < s0.id; omega)
  have hfr : freshR r (pcN s0 i) = ⟨7, s0.total, firstOf s0.size s0.text got⟩ := by
    unfold freshR
    rcases h.rid with hr | hr
    · rw [if_neg (by show ¬ r.id < s0.id; omega)]
      obtain ⟨a, b, c⟩ := r
      simp only at hr
      rw [hr.1, hr.2, ← h.ps]
    · rw [if_pos (by show r.id < s0.id; omega), hr.2.2]
      show (⟨s0.id, s0.total, []⟩ : Rcv) = _
      rw [h6]; rfl
  have htk : takeR r (pcN s0 i) = addR ⟨7, s0.total, firstOf s0.size s0.text got⟩ (pcN s0 i) := by unfold takeR; rw [if_pos hmay, hfr]
  have hok := takeR_ok h.rok (pcN s0 i)
  rw [htk] at hok ⊢
  unfold addR at hok ⊢
  by_cases hat : i = got
  · subst hat
    have hif : (pcN s0 i).at_ = ((⟨7, s0.total, firstOf s0.size s0.text i⟩ : Rcv).ps.length : Int) := by show (i : Int) = ((firstOf _ _ _).length : Int); rw [firstOf_len]
    rw [if_pos hif] at hok ⊢
    have hl : (firstOf s0.size s0.text i ++ [(pcN s0 i).data]).length = i + 1 := by rw [List.length_append, firstOf_len]; rfl
    simp only [hl]
    refine ⟨trivial, ⟨by omega, by omega⟩, by omega, h.s0ok, h.s0id, h.ok, h.same, hok, by rw [firstOf_succ]; rfl, .inl ⟨rfl, rfl⟩, by omega, h1, h.mail, fun t ht => ?_, by have := h.known; omega, h.snt⟩
    rcases List.mem_append.1 ht with ht | ht
    · have := h.told t ht; omega
    · rw [List.mem_singleton] at ht; omega
  · have hif : ¬ (pcN s0 i).at_ = ((⟨7, s0.total, firstOf s0.size s0.text got⟩ : Rcv).ps.length : Int) := by show ¬ (i : Int) = ((firstOf _ _ _).length : Int); rw [firstOf_len]; omega
    rw [if_neg hif] at hok ⊢
    have hl : (firstOf s0.size s0.text got).length = got := firstOf_len _ _ _
    simp only [hl]
    refine ⟨trivial, ⟨Nat.le_refl _, by omega⟩, by omega, h.s0ok, h.s0id, h.ok, h.same, hok, rfl, .inl ⟨rfl, rfl⟩, by omega, h1, h.mail, fun t ht => ?_, h.known, h.snt⟩
    rcases List.mem_append.1 ht with ht | ht
    · exact h.told t ht
    · rw [List.mem_singleton] at ht; omega
theorem Inv.lose (h : Inv s0 s r got sent mail told) {mail' : List Pc} (hm : ∀ p ∈ mail', p ∈ mail) : Inv s0 s r got sent mail' told :=
  ⟨h.s0ok, h.s0id, h.ok, h.same, h.rok, h.ps, h.rid, h.le, h.few, fun p hp => h.mail p (hm p hp), h.told, h.known, h.snt⟩
theorem Inv.ack (h : Inv s0 s r got sent mail told) {t : Int} (ht : t ∈ told) : (ackN s 7 t).2 = 0 ∧ Inv s0 (ackN s 7 t).1 r got sent mail told := by
  have h0 := h.told t ht
  have h1 := h.total; have h2 := h.few; have h3 := h.le; have h4 := h.same.1; have h5 := h.s0id; have h6 := h.known; have h7 := h.snt
  have hok := ackN_ok h.ok 7 t
  have e : ackN s 7 t = (⟨s.id, s.size, s.text, s.window, max s.got t.toNat, max s.sent (max s.got t.toNat)⟩, 0) := by
    unfold ackN; rw [if_neg (by omega), if_neg (by omega)]
  rw [e] at hok ⊢
  exact ⟨rfl, h.s0ok, h.s0id, hok, h.same, h.rok, h.ps, h.rid, h.le, h.few, h.mail, h.told, by show max s.got t.toNat ≤ got; omega, by show max s.sent (max s.got t.toNat) ≤ sent; omega⟩
theorem Inv.back (h : Inv s0 s r got sent mail told) : Inv s0 (backN s) r got sent mail told :=
  ⟨h.s0ok, h.s0id, backN_ok h.ok, h.same, h.rok, h.ps, h.rid, h.le, h.few, h.mail, h.told, h.known, by have := h.known; have := h.le; show s.got ≤ sent; omega⟩
theorem Inv.text (h : Inv s0 s r got sent mail told) (ha : allR r) : textR r = s0.text := by
  have h1 := ha.2
  rw [h.len] at h1
  have h2 := h.few; have h3 := h.le
  have hg : got = s0.total := by
    rcases h.rid with hr | hr
    · omega
    · exact absurd hr.2.1 ha.1
  unfold textR
  rw [if_pos ha, h.ps, hg]
  exact pieces_flat s0.text h.s0ok.size.1
theorem Inv.done (h : Inv s0 s r got sent mail told) (hd : s.got = s.total) : allR r := by
  have h1 := h.known; have h2 := h.few; have h3 := h.le; have h4 := h.total
  have h5 : 1 ≤ s0.total := cnt_pos _ _
  rcases h.rid with hr | hr
  · exact ⟨by omega, by rw [h.len]; omega⟩
  · omega
theorem Inv.pos (h : Inv s0 s r got sent mail told) : 0 ≤ r.total := by rcases h.rid with hr | hr <;> omega
end
end Go.Proofs.Ytdiejbojobbboaa
