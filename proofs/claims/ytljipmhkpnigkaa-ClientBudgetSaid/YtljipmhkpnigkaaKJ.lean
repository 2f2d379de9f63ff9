/- Package client: what a session keeps to (plain). -/
import Derived.Test.YtljipmhkpnigkaaKE
namespace Go.Proofs.Ytljipmhkpnigkaa
open Go.Vc Go.Codec

theorem Bk.take_pot {x : Bk} (h : x.ok) {now : Int} (h1 : x.n ≤ now) (h2 : now ≤ 1099511627776) :
    (x.take now).2.ok ∧ (x.take now).2.c = x.c ∧ (x.take now).2.r = x.r ∧ (x.take now).2.n = now ∧ (x.take now).2.phi + (if (x.take now).1 = true then x.r else 0) ≤ x.phi + (now - x.n) := by
  have ht : tick x.n now = now := by unfold tick; omega
  obtain ⟨hs, hp, hr, hc⟩ := Bk.bring_still h h1 h2
  have hn := Bk.bring_n x now
  have e : x.take now = if (x.bring now).l = 0 then (false, x.bring now) else (true, (x.bring now).less) := by
    unfold Bk.take Bk.go; rw [ht]; rfl
  rw [e]
  by_cases h0 : (x.bring now).l = 0
  · rw [if_pos h0]
    exact ⟨hs.1, hc, hr, hn, by simp; omega⟩
  · rw [if_neg h0]
    have hl : 0 < (x.bring now).l := by have := hs.1.2.2.2.2.1; omega
    obtain ⟨h3, h4⟩ := Bk.less_still hs hl
    refine ⟨h3.1, hc, hr, h3.2.1, ?_⟩
    show (x.bring now).less.phi + (if true = true then x.r else 0) ≤ _
    rw [if_pos rfl, h4, hr]; omega
def Clt.wait (x : Clt) : Int := if x.doing = 1 ∨ x.doing = 3 then 1 else 0
theorem Clt.wait_in (x : Clt) : 0 ≤ x.wait ∧ x.wait ≤ 1 := by unfold Clt.wait; split <;> omega
def outN (o : Option (Int × Frm)) : Int := match o with
  | none => 0
  | some y => if y.2.kind = 7 then 0 else 1
theorem outN_in (o : Option (Int × Frm)) : 0 ≤ outN o := by unfold outN; split <;> (try split) <;> omega
/-- what a session keeps to while `calls` calls began and `m` tries were made -/
structure BI (c : Cfg) (x : Clt) (now calls m : Int) : Prop where
  tok : x.tok.ok
  tc : x.tok.c = c.budget
  tr : x.tok.r = c.refill
  tn : x.tok.n ≤ now
  t1 : 0 ≤ x.call.nums 3
  t2 : x.call.nums 3 ≤ c.budget + 1
  tw : x.doing = 1 ∨ x.doing = 3 → x.call.nums 3 ≤ c.budget
  q1 : 0 ≤ x.call.nums 2
  q2 : x.call.nums 2 ≤ calls
  k1 : 0 ≤ x.tick
  k2 : x.tick ≤ 2199023255552
  ml : x.ch.mem.length ≤ 1000
  kk : x.call.kind ≠ 7
  pot : (m + x.wait) * c.refill + x.tok.phi ≤ (calls + c.budget) * c.refill + x.tok.n
section
variable {c : Cfg} {x : Clt} {now calls m : Int}
theorem BI.okK (h : BI c x now calls m) (hc : okS c) (h2 : calls ≤ 1099511627776) : okK x := by
  have := hc.budget.2
  exact ⟨h.tok, h.t1, by have := h.t2; omega, h.q1, by have := h.q2; omega, h.k1, h.k2, h.ml⟩
theorem BI.later (h : BI c x now calls m) {now' : Int} (hn : now ≤ now') : BI c x now' calls m :=
  ⟨h.tok, h.tc, h.tr, by have := h.tn; omega, h.t1, h.t2, h.tw, h.q1, h.q2, h.k1, h.k2, h.ml, h.kk, h.pot⟩
theorem mul_le {a b r : Int} (h : a ≤ b) (hr : 0 ≤ r) : a * r ≤ b * r := Int.mul_le_mul_of_nonneg_right h hr
theorem BI.fewer (h : BI c x now calls m) (hc : okS c) {m' : Int} (hm : m' ≤ m) : BI c x now calls m' := by
  have h1 := mul_le (show m' + x.wait ≤ m + x.wait by omega) (show 0 ≤ c.refill by have := hc.refill.1; omega)
  have := h.pot
  exact ⟨h.tok, h.tc, h.tr, h.tn, h.t1, h.t2, h.tw, h.q1, h.q2, h.k1, h.k2, h.ml, h.kk, by omega⟩
theorem BI.doubt (h : BI c x now calls m) : BI c x.doubt now calls m := ⟨h.tok, h.tc, h.tr, h.tn, h.t1, h.t2, h.tw, h.q1, h.q2, h.k1, h.k2, h.ml, h.kk, h.pot⟩
theorem BI.endO (h : BI c x now calls m) (hc : okS c) (o : Outc) : BI c (x.endO o) now calls m := by
  have h1 := mul_le (show m + 0 ≤ m + x.wait by have := x.wait_in; omega) (show 0 ≤ c.refill by have := hc.refill.1; omega)
  have := h.pot
  have e : (x.endO o).wait = 0 := rfl
  exact ⟨h.tok, h.tc, h.tr, h.tn, h.t1, h.t2, by show (0 : Int) = 1 ∨ (0 : Int) = 3 → _; omega, h.q1, h.q2, h.k1, h.k2, h.ml, h.kk, by rw [e]; show _ + x.tok.phi ≤ _ + x.tok.n; omega⟩
theorem BI.leave (h : BI c x now calls m) (hc : okS c) (r : Int) : BI c (x.leave r) now calls m := by
  unfold Clt.leave
  split
  · exact h.endO hc _
  · exact h.endO hc _
theorem BI.on (h : BI c x now calls m) (hc : okS c) (hd : x.doing = 2) (r : Int) (hn : 0 ≤ now ∧ now ≤ 1099511627776) : BI c (Clt.on c x r now) now calls m := by
  obtain ⟨a1, a2, a3, a4, a5⟩ := Bk.take_pot h.tok h.tn hn.2
  have hw : x.wait = 0 := by unfold Clt.wait; rw [if_neg (by omega)]
  have hpot := h.pot
  rw [hw] at hpot
  have hr := hc.refill.1
  unfold Clt.on
  split
  · exact h.leave hc r
  rename_i hn1
  split
  · rename_i hf
    rw [hf] at a5
    rw [if_neg (by simp)] at a5
    have h' : BI c (x.tokd (x.tok.take now).2) now calls m := by
      refine ⟨a1, a2.trans h.tc, a3.trans h.tr, by show (x.tok.take now).2.n ≤ _; omega, h.t1, h.t2, h.tw, h.q1, h.q2, h.k1, h.k2, h.ml, h.kk, ?_⟩
      have e : (x.tokd (x.tok.take now).2).wait = 0 := hw
      rw [e]
      show _ + (x.tok.take now).2.phi ≤ _ + (x.tok.take now).2.n
      omega
    exact h'.leave hc r
  · rename_i hf
    rw [if_pos (by simpa using hf), h.tr] at a5
    have hg := gapF_in (x.call.nums 3) 64
    refine ⟨a1, a2.trans h.tc, a3.trans h.tr, by show (x.tok.take now).2.n ≤ _; omega, h.t1, h.t2, fun _ => by show x.call.nums 3 ≤ _; omega, h.q1, h.q2, by show 0 ≤ now + gapF _ _; omega, by show now + gapF _ _ ≤ _; omega, h.ml, h.kk, ?_⟩
    have e : ((x.tokd (x.tok.take now).2).rest (now + gapF (x.call.nums 3) 64)).wait = 1 := rfl
    rw [e]
    show _ + (x.tok.take now).2.phi ≤ _ + (x.tok.take now).2.n
    have e2 : (m + 1) * c.refill = (m + 0) * c.refill + c.refill := by rw [Int.add_mul, Int.add_mul]; omega
    omega
theorem BI.refused (h : BI c x now calls m) (hc : okS c) (hd : x.doing = 2) (r : Int) (hn : 0 ≤ now ∧ now ≤ 1099511627776) : BI c (Clt.refused c x r now) now calls m := by
  unfold Clt.refused
  split
  · exact h.leave hc r
  · split
    · exact h.doubt.on hc hd r hn
    · exact h.on hc hd r hn
theorem after_out (x : Clt) : outN x.after = 0 := by
  unfold Clt.after
  split <;> rfl
theorem BI.ask (h : BI c x now calls m) (hd : x.doing = 1 ∨ x.doing = 3) {t : Int} (ht : 0 ≤ t ∧ t ≤ 1099511627776) : BI c (x.ask t) now calls m := by
  have e : (x.ask t).wait = 1 := rfl
  have e2 : x.wait = 1 := by unfold Clt.wait; rw [if_pos hd]
  have hp := h.pot
  rw [e2] at hp
  exact ⟨h.tok, h.tc, h.tr, h.tn, h.t1, h.t2, fun _ => h.tw hd, h.q1, h.q2, ht.1, by show t ≤ _; omega, h.ml, h.kk, by rw [e]; exact hp⟩
theorem BI.tickC (h : BI c x now calls m) (hc : okS c) (hn : 0 ≤ now ∧ now ≤ 1099511627776) : BI c (Clt.tickC c x now).1 now calls m ∧ outN (Clt.tickC c x now).2 = 0 := by
  have e : nearT now = now := by unfold nearT; omega
  unfold Clt.tickC
  rw [e]
  split
  · rename_i h1
    exact ⟨h.doubt.on hc h1.1 0 hn, after_out _⟩
  · split
    · exact ⟨h.leave hc 2, after_out _⟩
    · split
      · rename_i h1
        exact ⟨h.ask (by omega) hn, rfl⟩
      · exact ⟨h, rfl⟩
theorem BI.try_ (h : BI c x now calls m) (hd : x.doing = 1) {t : Int} (ht : 0 ≤ t ∧ t ≤ 1099511627776) : BI c (x.try_ t) now calls (m + 1) := by
  have e : (x.try_ t).wait = 0 := rfl
  have e2 : x.wait = 1 := by unfold Clt.wait; rw [if_pos (.inl hd)]
  have hp := h.pot
  rw [e2] at hp
  have e3 : (x.try_ t).call.nums 3 = x.call.nums 3 + 1 := rfl
  have := h.tw (.inl hd)
  have := h.t1
  exact ⟨h.tok, h.tc, h.tr, h.tn, by rw [e3]; omega, by rw [e3]; omega, fun hh => by have : (2 : Int) = 1 ∨ (2 : Int) = 3 := hh; omega, h.q1, h.q2, ht.1, by show t ≤ _; omega, h.ml, h.kk, by rw [e, Int.add_zero]; exact hp⟩
theorem BI.takeC (h : BI c x now calls m) (hc : okS c) (f : Frm) (hl : f.ch.mem.length ≤ 1000) (hn : 0 ≤ now ∧ now ≤ 1099511627776) : BI c (Clt.takeC c x f now).1 now calls (m + outN (Clt.takeC c x f now).2) := by
  have e : nearT now = now := by unfold nearT; omega
  have hk : BI c (x.known f.ch) now calls m := ⟨h.tok, h.tc, h.tr, h.tn, h.t1, h.t2, h.tw, h.q1, h.q2, h.k1, h.k2, hl, h.kk, h.pot⟩
  unfold Clt.takeC
  rw [e]
  split
  · split
    · rename_i _ hd
      have e2 : outN (some ((x.known f.ch).to, callT x.call f.ch.epoch)) = 1 := by
        unfold outN
        exact if_neg h.kk
      rw [e2]
      exact hk.try_ hd hn
    · rw [show outN none = 0 from rfl, Int.add_zero]; exact hk
  · split
    · rw [show outN none = 0 from rfl, Int.add_zero]; exact h.endO hc _
    · split
      · rename_i h1
        rw [after_out, Int.add_zero]
        exact h.refused hc h1.2.2.2.1 _ hn
      · rw [show outN none = 0 from rfl, Int.add_zero]; exact h
theorem BI.callC (h : BI c x now calls m) (hc : okS c) (o : Opn) (cl dl : Int) (hn : 0 ≤ now ∧ now ≤ 1099511627776) : BI c (Clt.callC c x o cl dl now).1 now (calls + if (Clt.callC c x o cl dl now).2.1 = 0 then 1 else 0) (m + outN (Clt.callC c x o cl dl now).2.2) := by
  have e : nearT now = now := by unfold nearT; omega
  have hpot := h.pot
  have hb := hc.budget.1
  have hr := hc.refill.1
  have hw := x.wait_in
  have h1 := mul_le (show m + 0 ≤ m + x.wait by omega) (show 0 ≤ c.refill by omega)
  have e3 : (calls + 1 + c.budget) * c.refill = (calls + c.budget) * c.refill + c.refill := by rw [Int.add_mul, Int.add_mul, Int.add_mul]; omega
  have e4 : (m + 1) * c.refill = (m + 0) * c.refill + c.refill := by rw [Int.add_mul, Int.add_mul]; omega
  have hq1 := h.q1
  have hq2 := h.q2
  unfold Clt.callC
  rw [e]
  split
  · show BI c x now (calls + 0) (m + 0)
    rw [Int.add_zero, Int.add_zero]; exact h
  · split
    · show BI c x now (calls + 0) (m + 0)
      rw [Int.add_zero, Int.add_zero]; exact h
    · split
      · have e2 : outN (some ((x.begun o cl dl).to, callT (newCall x o cl dl) x.ch.epoch)) = 1 := rfl
        rw [e2]
        show BI c ((x.begun o cl dl).try_ now) now (calls + 1) (m + 1)
        exact ⟨h.tok, h.tc, h.tr, h.tn, by show (0 : Int) ≤ 0 + 1; omega, by show (0 : Int) + 1 ≤ _; omega, fun hh => by have : (2 : Int) = 1 ∨ (2 : Int) = 3 := hh; omega, by show 0 ≤ x.call.nums 2 + 1; omega, by show x.call.nums 2 + 1 ≤ _; omega, hn.1, by show now ≤ _; omega, h.ml, by show (1 : Int) ≠ 7; omega, by
          rw [show ((x.begun o cl dl).try_ now).wait = 0 from rfl]
          show (m + 1 + 0) * _ + x.tok.phi ≤ _ + x.tok.n
          rw [Int.add_zero, e3, e4]; omega⟩
      · show BI c ((x.begun o cl dl).ask now) now (calls + 1) (m + 0)
        exact ⟨h.tok, h.tc, h.tr, h.tn, by show (0 : Int) ≤ 0; omega, by show (0 : Int) ≤ _; omega, fun _ => by show (0 : Int) ≤ _; omega, by show 0 ≤ x.call.nums 2 + 1; omega, by show x.call.nums 2 + 1 ≤ _; omega, hn.1, by show now ≤ _; omega, h.ml, by show (1 : Int) ≠ 7; omega, by
          rw [show ((x.begun o cl dl).ask now).wait = 1 from rfl]
          show (m + 0 + 1) * _ + x.tok.phi ≤ _ + x.tok.n
          rw [Int.add_zero, e3, e4]; omega⟩
theorem newC_BI (hc : okS c) (id : Int) : BI c (newC c id) 0 0 0 := by
  have hb := hc.budget.1
  refine ⟨newBk_ok (okS_args hc), rfl, rfl, by show (0 : Int) ≤ 0; omega, by show (0 : Int) ≤ 0; omega, by show (0 : Int) ≤ _; omega, fun _ => by show (0 : Int) ≤ _; omega, by show (0 : Int) ≤ 0; omega, by show (0 : Int) ≤ 0; omega, by show (0 : Int) ≤ 0; omega, by show (0 : Int) ≤ _; omega, Nat.zero_le _, by show (0 : Int) ≠ 7; omega, ?_⟩
  rw [show (newC c id).wait = 0 from rfl]
  have : (newC c id).tok.phi = c.budget * c.refill := if_pos rfl
  rw [this]
  show (0 + 0) * c.refill + c.budget * c.refill ≤ (0 + c.budget) * c.refill + 0
  simp
theorem BI.few (h : BI c x now calls m) (hc : okS c) : m ≤ calls + c.budget + now / c.refill := by
  have hr := hc.refill.1
  have h1 := mul_le (show m + 0 ≤ m + x.wait by have := x.wait_in; omega) (show 0 ≤ c.refill by omega)
  have h2 := (Bk.phi_nonneg h.tok).1
  have hp := h.pot
  have hn := h.tn
  have h3 : (m - (calls + c.budget)) * c.refill ≤ now := by
    rw [Int.sub_mul]
    rw [Int.add_zero] at h1
    omega
  have := (Int.le_ediv_iff_mul_le (show 0 < c.refill by omega)).2 h3
  omega
end
end Go.Proofs.Ytljipmhkpnigkaa
