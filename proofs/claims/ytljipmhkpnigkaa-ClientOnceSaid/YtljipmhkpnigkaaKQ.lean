/- Package client: what a session keeps to (plain). -/
import Derived.Test.YtljipmhkpnigkaaKE
namespace Go.Proofs.Ytljipmhkpnigkaa
open Go.Vc Go.Codec

theorem Bk.take_pot {x : Bk} (h : x.ok) {now : Int} (h1 : x.n ≤ now) (h2 : now ≤ 1099511627776) :
    (x.take now).2.ok ∧ (x.take now).2.c = x.c ∧ (x.take now).2.r = x.r ∧ (x.take now).2.n = now ∧ (x.take now).2.phi + (if (x.take now).1 = true then x.r else 0) ≤ x.phi + (now - x.n) := by
  have ht : tick x.n now = now := by unfold tick; omega
  obtain ⟨hs, hp, hr, hc⟩ := Bk.bring_still h h1 h2
  have hn := Bk.bring_n x now
  have e : x.take now = if (x.bring now).l = 0 then (false, x.bring now) else (true, (x.bring now).less) := by
    unfold Bk.take Bk.go; rw [ht]; rfl
  rw [e]
  by_cases h0 : (x.bring now).l = 0
  · rw [if_pos h0]
    exact ⟨hs.1, hc, hr, hn, by simp; omega⟩
  · rw [if_neg h0]
    have hl : 0 < (x.bring now).l := by have := hs.1.2.2.2.2.1; omega
    obtain ⟨h3, h4⟩ := Bk.less_still hs hl
    refine ⟨h3.1, hc, hr, h3.2.1, ?_⟩
    show (x.bring now).less.phi + (if true = true then x.r else 0) ≤ _
    rw [if_pos rfl, h4, hr]; omega
def Clt.wait (x : Clt) : Int := if x.doing = 1 ∨ x.doing = 3 then 1 else 0
theorem Clt.wait_in (x : Clt) : 0 ≤ x.wait ∧ x.wait ≤ 1 := by unfold Clt.wait; split <;> omega
def outN (o : Option (Int × Frm)) : Int := match o with
  | none => 0
  | some y => if y.2.kind = 7 then 0 else 1
theorem outN_in (o : Option (Int × Frm)) : 0 ≤ outN o := by unfold outN; split <;> (try split) <;> omega
/-- what a session keeps to while `calls` calls began and `m` tries were made -/
structure BI (c : Cfg) (x : Clt) (now calls m : Int) : Prop where
  tok : x.tok.ok
  tc : x.tok.c = c.budget
  tr : x.tok.r = c.refill
  tn : x.tok.n ≤ now
  t1 : 0 ≤ x.call.nums 3
  t2 : x.call.nums 3 ≤ c.budget + 1
  tw : x.doing = 1 ∨ x.doing = 3 → x.call.nums 3 ≤ c.budget
  q1 : 0 ≤ x.call.nums 2
  q2 : x.call.nums 2 ≤ calls
  k1 : 0 ≤ x.tick
  k2 : x.tick ≤ 2199023255552
  ml : x.ch.mem.length ≤ 1000
  kk : x.call.kind ≠ 7
  pot : (m + x.wait) * c.refill + x.tok.phi ≤ (calls + c.budget) * c.refill + x.tok.n
section
variable {c : Cfg} {x : Clt} {now calls m : Int}
theorem BI.okK (h : BI c x now calls m) (hc : okS c) (h2 : calls ≤ 1099511627776) : okK x := by
  have := hc.budget.2
  exact ⟨h.tok, h.t1, by have := h.t2; omega, h.q1, by have := h.q2; omega, h.k1, h.k2, h.ml⟩
theorem BI.later (h : BI c x now calls m) {now' : Int} (hn : now ≤ now') : BI c x now' calls m :=
  ⟨h.tok, h.tc, h.tr, by have := h.tn; omega, h.t1, h.t2, h.tw, h.q1, h.q2, h.k1, h.k2, h.ml, h.kk, h.pot⟩
theorem mul_le {a b r : Int} (h : a ≤ b) (hr : 0 ≤ r) : a * r ≤ b * r := Int.mul_le_mul_of_nonneg_right h hr
theorem BI.fewer (h : BI c x now calls m) (hc : okS c) {m' : Int} (hm : m' ≤ m) : BI c x now calls m' := by
  have h1 := mul_le (show m' + x.wait ≤ m + x.wait by omega) (show 0 ≤ c.refill by have := hc.refill.1; omega)
  have := h.pot
  exact ⟨h.tok, h.tc, h.tr, h.tn, h.t1, h.t2, h.tw, h.q1, h.q2, h.k1, h.k2, h.ml, h.kk, by omega⟩
theorem BI.doubt (h : BI c x now calls m) : BI c x.doubt now calls m := ⟨h.tok, h.tc, h.tr, h.tn, h.t1, h.t2, h.tw, h.q1, h.q2, h.k1, h.k2, h.ml, h.kk, h.pot⟩
theorem BI.endO (h : BI c x now calls m) (hc : okS c) (o : Outc) : BI c (x.endO o) now calls m := by
  have h1 := mul_le (show m + 0 ≤ m + x.wait by have := x.wait_in; omega) (show 0 ≤ c.refill by have := hc.refill.1; omega)
  have := h.pot
  have e : (x.endO o).wait = 0 := rfl
  exact ⟨h.tok, h.tc, h.tr, h.tn, h.t1, h.t2, by show (0 : Int) = 1 ∨ (0 : Int) = 3 → _; omega, h.q1, h.q2, h.k1, h.k2, h.ml, h.kk, by rw [e]; show _ + x.tok.phi ≤ _ + x.tok.n; omega⟩
theorem BI.leave (h : BI c x now calls m) (hc : okS c) (r : Int) : BI c (x.leave r) now calls m := by
  unfold Clt.leave
  split
  · exact h.endO hc _
  · exact h.endO hc _
theorem BI.on (h : BI c x now calls m) (hc : okS c) (hd : x.doing = 2) (r : Int) (hn : 0 ≤ now ∧ now ≤ 1099511627776) : BI c (Clt.on c x r now) now calls m := by
  obtain ⟨a1, a2, a3, a4, a5⟩ := Bk.take_pot h.tok h.tn hn.2
  have hw : x.wait = 0 := by unfold Clt.wait; rw [if_neg (by omega)]
  have hpot := h.pot
  rw [hw] at hpot
  have hr := hc.refill.1
  unfold Clt.on
  split
  · exact h.leave hc r
  rename_i hn1
  split
  · rename_i hf
    rw [hf] at a5
    rw [if_neg (by simp)] at a5
    have h' : BI c (x.tokd (x.tok.take now).2) now calls m := by
      refine ⟨a1, a2.trans h.tc, a3.trans h.tr, by show (x.tok.take now).2.n ≤ _; omega, h.t1, h.t2, h.tw, h.q1, h.q2, h.k1, h.k2, h.ml, h.kk, ?_⟩
      have e : (x.tokd (x.tok.take now).2).wait = 0 := hw
      rw [e]
      show _ + (x.tok.take now).2.phi ≤ _ + (x.tok.take now).2.n
      omega
    exact h'.leave hc r
  · rename_i hf
    rw [if_pos (by simpa using hf), h.tr] at a5
    have hg := gapF_in (x.call.nums 3) 64
    refine ⟨a1, a2.trans h.tc, a3.trans h.tr, by show (x.tok.take now).2.n ≤ _; omega, h.t1, h.t2, fun _ => by show x.call.nums 3 ≤ _; omega, h.q1, h.q2, by show 0 ≤ now + gapF _ _; omega, by show now + gapF _ _ ≤ _; omega, h.ml, h.kk, ?_⟩
    have e : ((x.tokd (x.tok.take now).2).rest (now + gapF (x.call.nums 3) 64)).wait = 1 := rfl
    rw [e]
    show _ + (x.tok.take now).2.phi ≤ _ + (x.tok.take now).2.n
    have e2 : (m + 1) * c.refill = (m + 0) * c.refill + c.refill := by rw [Int.add_mul, Int.add_mul]; omega
    omega
theorem BI.refused (h : BI c x now calls m) (hc : okS c) (hd : x.doing = 2) (r : Int) (hn : 0 ≤ now ∧ now ≤ 1099511627776) : BI c (Clt.refused c x r now) now calls m := by
  unfold Clt.refused
  split
  · exact h.leave hc r
  · split
    · exact h.doubt.on hc hd r hn
    · exact h.on hc hd r hn
theorem after_out (x : Clt) : outN x.after = 0 := by
  unfold Clt.after
  split <;> rfl
theorem BI.ask (h : BI c x now calls m) (hd : x.doing = 1 ∨ x.doing = 3) {t : Int} (ht : 0 ≤ t ∧ t ≤ 1099511627776) : BI c (x.ask t) now calls m := by
  have e : (x.ask t).wait = 1 := rfl
  have e2 : x.wait = 1 := by unfold Clt.wait; rw [if_pos hd]
  have hp := h.pot
  rw [e2] at hp
  exact ⟨h.tok, h.tc, h.tr, h.tn, h.t1, h.t2, fun _ => h.tw hd, h.q1, h.q2, ht.1, by show t ≤ _; omega, h.ml, h.kk, by rw [e]; exact hp⟩
theorem BI.tickC (h : BI c x now calls m) (hc : okS c) (hn : 0 ≤ now ∧ now ≤ 1099511627776) : BI c (Clt.tickC c x now).1 now calls m ∧ outN (Clt.tickC c x now).2 = 0 := by
  have e : nearT now = now := by unfold nearT; omega
  unfold Clt.tickC
  rw [e]
  split
  · rename_i h1
    exact ⟨h.doubt.on hc h1.1 0 hn, after_out _⟩
  · split
    · exact ⟨h.leave hc 2, after_out _⟩
    · split
      · rename_i h1
        exact ⟨h.ask (by omega) hn, rfl⟩
      · exact ⟨h, rfl⟩
theorem BI.try_ (h : BI c x now calls m) (hd : x.doing = 1) {t : Int} (ht : 0 ≤ t ∧ t ≤ 1099511627776) : BI c (x.try_ t) now calls (m + 1) := by
  have e : (x.try_ t).wait = 0 := rfl
  have e2 : x.wait = 1 := by unfold Clt.wait; rw [if_pos (.inl hd)]
  have hp := h.pot
  rw [e2] at hp
  have e3 : (x.try_ t).call.nums 3 = x.call.nums 3 + 1 := rfl
  have := h.tw (.inl hd)
  have := h.t1
  exact ⟨h.tok, h.tc, h.tr, h.tn, by rw [e3]; omega, by rw [e3]; omega, fun hh => by have : (2 : Int) = 1 ∨ (2 : Int) = 3 := hh; omega, h.q1, h.q2, ht.1, by show t ≤ _; omega, h.ml, h.kk, by rw [e, Int.add_zero]; exact hp⟩
theorem BI.takeC (h : BI c x now calls m) (hc : okS c) (f : Frm) (hl : f.ch.mem.length ≤ 1000) (hn : 0 ≤ now ∧ now ≤ 1099511627776) : BI c (Clt.takeC c x f now).1 now calls (m + outN (Clt.takeC c x f now).2) := by
  have e : nearT now = now := by unfold nearT; omega
  have hk : BI c (x.known f.ch) now calls m := ⟨h.tok, h.tc, h.tr, h.tn, h.t1, h.t2, h.tw, h.q1, h.q2, h.k1, h.k2, hl, h.kk, h.pot⟩
  unfold Clt.takeC
  rw [e]
  split
  · split
    · rename_i _ hd
      have e2 : outN (some ((x.known f.ch).to, callT x.call f.ch.epoch)) = 1 := by
        unfold outN
        exact if_neg h.kk
      rw [e2]
      exact hk.try_ hd hn
    · rw [show outN none = 0 from rfl, Int.add_zero]; exact hk
  · split
    · rw [show outN none = 0 from rfl, Int.add_zero]; exact h.endO hc _
    · split
      · rename_i h1
        rw [after_out, Int.add_zero]
        exact h.refused hc h1.2.2.2.1 _ hn
      · rw [show outN none = 0 from rfl, Int.add_zero]; exact h
theorem BI.callC (h : BI c x now calls m) (hc : okS c) (o : Opn) (cl dl : Int) (hn : 0 ≤ now ∧ now ≤ 1099511627776) : BI c (Clt.callC c x o cl dl now).1 now (calls + if (Clt.callC c x o cl dl now).2.1 = 0 then 1 else 0) (m + outN (Clt.callC c x o cl dl now).2.2) := by
  have e : nearT now = now := by unfold nearT; omega
  have hpot := h.pot
  have hb := hc.budget.1
  have hr := hc.refill.1
  have hw := x.wait_in
  have h1 := mul_le (show m + 0 ≤ m + x.wait by omega) (show 0 ≤ c.refill by omega)
  have e3 : (calls + 1 + c.budget) * c.refill = (calls + c.budget) * c.refill + c.refill := by rw [Int.add_mul, Int.add_mul, Int.add_mul]; omega
  have e4 : (m + 1) * c.refill = (m + 0) * c.refill + c.refill := by rw [Int.add_mul, Int.add_mul]; omega
  have hq1 := h.q1
  have hq2 := h.q2
  unfold Clt.callC
  rw [e]
  split
  · show BI c x now (calls + 0) (m + 0)
    rw [Int.add_zero, Int.add_zero]; exact h
  · split
    · show BI c x now (calls + 0) (m + 0)
      rw [Int.add_zero, Int.add_zero]; exact h
    · split
      · have e2 : outN (some ((x.begun o cl dl).to, callT (newCall x o cl dl) x.ch.epoch)) = 1 := rfl
        rw [e2]
        show BI c ((x.begun o cl dl).try_ now) now (calls + 1) (m + 1)
        exact ⟨h.tok, h.tc, h.tr, h.tn, by show (0 : Int) ≤ 0 + 1; omega, by show (0 : Int) + 1 ≤ _; omega, fun hh => by have : (2 : Int) = 1 ∨ (2 : Int) = 3 := hh; omega, by show 0 ≤ x.call.nums 2 + 1; omega, by show x.call.nums 2 + 1 ≤ _; omega, hn.1, by show now ≤ _; omega, h.ml, by show (1 : Int) ≠ 7; omega, by
          rw [show ((x.begun o cl dl).try_ now).wait = 0 from rfl]
          show (m + 1 + 0) * _ + x.tok.phi ≤ _ + x.tok.n
          rw [Int.add_zero, e3, e4]; omega⟩
      · show BI c ((x.begun o cl dl).ask now) now (calls + 1) (m + 0)
        exact ⟨h.tok, h.tc, h.tr, h.tn, by show (0 : Int) ≤ 0; omega, by show (0 : Int) ≤ _; omega, fun _ => by show (0 : Int) ≤ _; omega, by show 0 ≤ x.call.nums 2 + 1; omega, by show x.call.nums 2 + 1 ≤ _; omega, hn.1, by show now ≤ _; omega, h.ml, by show (1 : Int) ≠ 7; omega, by
          rw [show ((x.begun o cl dl).ask now).wait = 1 from rfl]
          show (m + 0 + 1) * _ + x.tok.phi ≤ _ + x.tok.n
          rw [Int.add_zero, e3, e4]; omega⟩
theorem newC_BI (hc : okS c) (id : Int) : BI c (newC c id) 0 0 0 := by
  have hb := hc.budget.1
  refine ⟨newBk_ok (okS_args hc), rfl, rfl, by show (0 : Int) ≤ 0; omega, by show (0 : Int) ≤ 0; omega, by show (0 : Int) ≤ _; omega, fun _ => by show (0 : Int) ≤ _; omega, by show (0 : Int) ≤ 0; omega, by show (0 : Int) ≤ 0; omega, by show (0 : Int) ≤ 0; omega, by show (0 : Int) ≤ _; omega, Nat.zero_le _, by show (0 : Int) ≠ 7; omega, ?_⟩
  rw [show (newC c id).wait = 0 from rfl]
  have : (newC c id).tok.phi = c.budget * c.refill := if_pos rfl
  rw [this]
  show (0 + 0) * c.refill + c.budget * c.refill ≤ (0 + c.budget) * c.refill + 0
  simp
theorem BI.few (h : BI c x now calls m) (hc : okS c) : m ≤ calls + c.budget + now / c.refill := by
  have hr := hc.refill.1
  have h1 := mul_le (show m + 0 ≤ m + x.wait by have := x.wait_in; omega) (show 0 ≤ c.refill by omega)
  have h2 := (Bk.phi_nonneg h.tok).1
  have hp := h.pot
  have hn := h.tn
  have h3 : (m - (calls + c.budget)) * c.refill ≤ now := by
    rw [Int.sub_mul]
    rw [Int.add_zero] at h1
    omega
  have := (Int.le_ediv_iff_mul_le (show 0 < c.refill by omega)).2 h3
  omega
end
theorem setsL_all' {l cs : List Value} (h : l.length = cs.length) : setsL cs 0 l = l := by
  rw [setsL_eq l cs 0 (by omega)]
  simp [h]
theorem tm_in {n m : Int} (h : 0 ≤ n) (hm : 0 < m) : 0 ≤ n.tmod m ∧ n.tmod m < m := ⟨Int.tmod_nonneg _ h, Int.tmod_lt_of_pos _ hm⟩
section
variable {S : Nat → Prop} {w0 w : World} {L2 : List Atom} {b : Nat} {c : Cfg} {cp : Option Addr} {cn ck : Nat} {x : Clt} {p : Option Addr} {k bt bs : Nat}
theorem dropL {X L : List Atom} (st : St S w0 w (X ++ L)) : St S w0 w L :=
  st.drop (· + X.length) (fun _ _ h => by omega) (fun k A hA => by rw [List.getElem?_append_right (by omega)]; simpa using hA)
theorem ktake_goB (st : St S w0 w (clA b c cp cn ck x p k bt bs ++ L2)) (hx : okK x) {f : Frm} {nd sn : Int} (hm : f.ch.mem = [(nd, sn)]) (now : Int) {bm t kf : Nat} (j : Nat) (hj : L2[j]? = some (.blk bm t [.int .i64 nd, .int .i64 sn])) {R : Ending → World → Prop}
    (hR : ∀ q n m X p2 k2 w', Snt (Clt.takeC c x f now).2 (.slice q n m) X → St S w0 w' ((X ++ clA b c cp cn ck (Clt.takeC c x f now).1 p2 k2 bt bs) ++ L2) → R (.returned (.slice q n m)) w') :
    Ca Try.prog 40 #[.pointer (some ⟨b, 0, none⟩), frmV f (some ⟨bm, 0, none⟩) kf, .int .i64 now] w R := by
  have hrow : (clA b c cp cn ck x p k bt bs ++ L2)[4 + j]? = some (.blk bm t [.int .i64 nd, .int .i64 sn]) := by
    rw [List.getElem?_append_right (by show 4 ≤ 4 + j; omega)]
    show L2[4 + j - 4]? = _
    rw [show 4 + j - 4 = j by omega]; exact hj
  have hM : MemAt w (some ⟨bm, 0, none⟩) [(nd, sn)] := fun i hi => by
    obtain rfl : i = 0 := by simpa using hi
    exact ⟨_, rfl, st.rowAt (4 + j) hrow rfl⟩
  rw [← hm] at hM
  refine Ca.mono (ktake_ca hx (by rw [hm]; show 1 ≤ 1000; decide) now hM ?_ st.enter) ?_
  · intro a ha hft
    obtain ⟨i, A, hA, hg⟩ := feet_mem.1 hft
    have hi : i < 4 := by
      rcases Nat.lt_or_ge i 4 with h | h
      · exact h
      · rw [List.getElem?_eq_none (by show 4 ≤ i; omega)] at hA; cases hA
    refine st.disj i (4 + j) A _ (by omega) (app_left hA) hrow a.block hg ?_
    cases ha
    rfl
  · rintro e w' ⟨L', ⟨q, n, m, X, p2, k2, rfl, hX, rfl⟩, st'⟩
    exact hR q n m X p2 k2 w' hX (st.leave st')
end

structure OI (x : Clt) (n epoch tried refused seq : Int) : Prop where
  id : x.id = n
  sq : x.call.nums 2 = seq
  tr : x.call.nums 3 = tried
  dd : 0 ≤ x.doing ∧ x.doing ≤ 3
  sl : x.slot.isSome = true ↔ 0 < seq ∧ x.doing = 0
  ok : ∀ o, x.slot = some o → 1 ≤ o.kind ∧ o.kind ≤ 3
  cl : x.doing ≠ 0 → x.call.kind = 1 ∧ x.call.nums 1 = x.id ∧ 0 < seq
  r2 : x.unsure = false → x.doing = 2 → tried - 1 ≤ refused
  r1 : x.unsure = false → x.doing = 1 ∨ x.doing = 3 → tried ≤ refused
  ep : x.ch.epoch ≤ 1 + epoch
/-- one turn, that begins no call -/
structure OP (x x' : Clt) (n epoch tried refused seq : Int) : Prop where
  oi : OI x' n epoch tried refused seq
  keep : x.slot.isSome = true → x'.slot = x.slot
  rej : ∀ o, x.slot = none → x'.slot = some o → o.kind = 2 → tried ≤ refused
section
variable {c : Cfg} {x : Clt} {n epoch tried refused seq : Int}
theorem OI.none_ (h : OI x n epoch tried refused seq) (hd : x.doing ≠ 0) : x.slot = none := by
  cases hs : x.slot with
  | none => rfl
  | some o => exact absurd (h.sl.1 (by rw [hs]; rfl)).2 hd
theorem OI.same (h : OI x n epoch tried refused seq) : OP x x n epoch tried refused seq :=
  ⟨h, fun _ => rfl, fun o h1 h2 => by rw [h1] at h2; cases h2⟩
theorem OI.endO (h : OI x n epoch tried refused seq) (hd : x.doing ≠ 0) {o : Outc} (hk : 1 ≤ o.kind ∧ o.kind ≤ 3) (hr : o.kind = 2 → tried ≤ refused) : OP x (x.endO o) n epoch tried refused seq := by
  have hs := h.none_ hd
  have e : (x.endO o).slot = some o := by show (setS x.slot o).1 = some o; rw [hs]; unfold setS; rw [if_pos ⟨by unfold mayO; omega, rfl⟩]
  refine ⟨⟨h.id, h.sq, h.tr, by show (0 : Int) ≤ 0 ∧ (0 : Int) ≤ 3; omega, ?_, ?_, fun hh => absurd rfl hh, fun _ hh => ?_, fun _ hh => ?_, h.ep⟩, ?_, ?_⟩
  · rw [e]; exact ⟨fun _ => ⟨(h.cl hd).2.2, rfl⟩, fun _ => rfl⟩
  · intro o' ho'; rw [e] at ho'; cases ho'; exact hk
  · have : (0 : Int) = 2 := hh; omega
  · have : (0 : Int) = 1 ∨ (0 : Int) = 3 := hh; omega
  · intro hh; rw [hs] at hh; cases hh
  · intro o' _ ho'; rw [e] at ho'; cases ho'; exact hr
theorem OI.leave (h : OI x n epoch tried refused seq) (hd : x.doing ≠ 0) (hR : x.unsure = false → tried ≤ refused) (r : Int) : OP x (x.leave r) n epoch tried refused seq := by
  unfold Clt.leave
  split
  · exact h.endO hd ⟨by show (1 : Int) ≤ 3; omega, by show (3 : Int) ≤ 3; omega⟩ (fun hh => by have : (3 : Int) = 2 := hh; omega)
  · rename_i hu
    exact h.endO hd ⟨by show (1 : Int) ≤ 2; omega, by show (2 : Int) ≤ 3; omega⟩ (fun _ => hR (by simpa using hu))
theorem OI.tokd (h : OI x n epoch tried refused seq) (t : Bk) : OI (x.tokd t) n epoch tried refused seq := ⟨h.id, h.sq, h.tr, h.dd, h.sl, h.ok, h.cl, h.r2, h.r1, h.ep⟩
theorem OI.doubt (h : OI x n epoch tried refused seq) : OI x.doubt n epoch tried refused seq :=
  ⟨h.id, h.sq, h.tr, h.dd, h.sl, h.ok, h.cl, fun hh => (by cases hh), fun hh => (by cases hh), h.ep⟩
theorem OI.on (h : OI x n epoch tried refused seq) (hd : x.doing = 2) (hR : x.unsure = false → tried ≤ refused) (r now : Int) : OP x (Clt.on c x r now) n epoch tried refused seq := by
  have hne : x.doing ≠ 0 := by omega
  have hs := h.none_ hne
  unfold Clt.on
  split
  · exact h.leave hne hR r
  · split
    · have := (h.tokd (x.tok.take now).2).leave hne hR r
      exact ⟨this.oi, this.keep, this.rej⟩
    · refine ⟨⟨h.id, h.sq, h.tr, by show (0 : Int) ≤ 3 ∧ (3 : Int) ≤ 3; omega, ?_, h.ok, fun _ => h.cl hne, fun _ hh => ?_, fun hu _ => hR hu, h.ep⟩, fun _ => rfl, fun o h1 h2 => ?_⟩
      · constructor
        · intro hh
          have : x.slot.isSome = true := hh
          rw [hs] at this; cases this
        · rintro ⟨_, hh⟩
          have : (3 : Int) = 0 := hh
          omega
      · have : (3 : Int) = 2 := hh; omega
      · have : x.slot = some o := h2
        rw [hs] at this; cases this
theorem OI.refusal (h : OI x n epoch tried refused seq) (hd : x.doing = 2) (r now : Int) (hR : r ≠ 6 → x.unsure = false → tried ≤ refused) : OP x (Clt.refused c x r now) n epoch tried refused seq := by
  unfold Clt.refused
  split
  · exact h.leave (by omega) (hR (by omega)) r
  · split
    · have := h.doubt.on (c := c) hd (fun hh => by cases hh) r now
      exact ⟨this.oi, this.keep, this.rej⟩
    · rename_i h1
      exact h.on hd (hR h1) r now
theorem OI.ask (h : OI x n epoch tried refused seq) (hd : x.doing = 1 ∨ x.doing = 3) (t : Int) : OP x (x.ask t) n epoch tried refused seq := by
  have hs := h.none_ (by omega)
  refine ⟨⟨h.id, h.sq, h.tr, by show (0 : Int) ≤ 1 ∧ (1 : Int) ≤ 3; omega, ?_, h.ok, fun _ => h.cl (by omega), fun _ hh => ?_, fun hu _ => h.r1 hu hd, h.ep⟩, fun _ => rfl, fun o h1 h2 => ?_⟩
  · constructor
    · intro hh
      have : x.slot.isSome = true := hh
      rw [hs] at this; cases this
    · rintro ⟨_, hh⟩
      have : (1 : Int) = 0 := hh
      omega
  · have : (1 : Int) = 2 := hh; omega
  · have : x.slot = some o := h2
    rw [hs] at this; cases this
theorem OI.tickC (h : OI x n epoch tried refused seq) (now : Int) : OP x (Clt.tickC c x now).1 n epoch tried refused seq := by
  unfold Clt.tickC
  split
  · rename_i h1
    have := h.doubt.on (c := c) h1.1 (fun hh => by cases hh) 0 (nearT now)
    exact ⟨this.oi, this.keep, this.rej⟩
  · split
    · rename_i h1
      exact h.leave (by omega) (fun hu => h.r1 hu (.inl h1.1)) 2
    · split
      · rename_i h1
        exact h.ask (by omega) _
      · exact h.same
theorem OI.reply (h : OI x n epoch tried refused seq) {f : Frm} (hf : f.kind = 2) (now : Int) : OP x (Clt.takeC c x f now).1 n epoch tried refused seq := by
  unfold Clt.takeC
  rw [if_neg (by omega)]
  split
  · rename_i h1
    exact h.endO h1.2.2.2 ⟨by show (1 : Int) ≤ 1; omega, by show (1 : Int) ≤ 3; omega⟩ (fun hh => by have : (1 : Int) = 2 := hh; omega)
  · rw [if_neg (by omega)]
    exact h.same
theorem OI.more (h : OI x n epoch tried refused seq) {r' : Int} (hr : refused ≤ r') : OI x n epoch tried r' seq :=
  ⟨h.id, h.sq, h.tr, h.dd, h.sl, h.ok, h.cl, fun a b => by have := h.r2 a b; omega, fun a b => by have := h.r1 a b; omega, h.ep⟩
theorem OI.refuse (h : OI x n epoch tried refused seq) {f : Frm} (hf : f.kind = 3) (now : Int) {r' : Int} (hr : refused ≤ r') (hR : x.doing = 2 → f.nums 3 = x.call.nums 3 → f.nums 6 ≠ 6 → x.unsure = false → tried ≤ r') : OP x (Clt.takeC c x f now).1 n epoch tried r' seq := by
  unfold Clt.takeC
  rw [if_neg (by omega), if_neg (by omega)]
  split
  · rename_i h1
    exact (h.more hr).refusal h1.2.2.2.1 _ _ (fun h6 hu => hR h1.2.2.2.1 h1.2.2.2.2 h6 hu)
  · exact (h.more hr).same
theorem OI.chain (h : OI x n epoch tried refused seq) {f : Frm} (hf : f.kind = 8) (hc : chkC f.ch = 0) {e' : Int} (he : epoch ≤ e') (hfe : f.ch.epoch = 1 + e') (now : Int) :
    (x.doing = 1 ∧ (Clt.takeC c x f now).2 = some ((x.known f.ch).to, callT x.call f.ch.epoch) ∧ OP x (Clt.takeC c x f now).1 n e' (tried + 1) refused seq) ∨ ((Clt.takeC c x f now).2 = none ∧ OP x (Clt.takeC c x f now).1 n e' tried refused seq) := by
  have hep := h.ep
  unfold Clt.takeC
  rw [if_pos ⟨hf, hc, by omega⟩]
  by_cases hd : x.doing = 1
  · rw [if_pos hd]
    have hs := h.none_ (by omega)
    refine .inl ⟨hd, rfl, ⟨⟨h.id, h.sq, by show x.call.nums 3 + 1 = _; rw [h.tr], by show (0 : Int) ≤ 2 ∧ (2 : Int) ≤ 3; omega, ?_, h.ok, fun _ => h.cl (by omega), fun hu _ => ?_, fun _ hh => ?_, by show f.ch.epoch ≤ _; omega⟩, fun _ => rfl, fun o h1 h2 => ?_⟩⟩
    · constructor
      · intro hh
        have : x.slot.isSome = true := hh
        rw [hs] at this; cases this
      · rintro ⟨_, hh⟩
        have : (2 : Int) = 0 := hh
        omega
    · have := h.r1 hu (.inl hd); omega
    · have : (2 : Int) = 1 ∨ (2 : Int) = 3 := hh; omega
    · have : x.slot = some o := h2
      rw [hs] at this; cases this
  · rw [if_neg hd]
    refine .inr ⟨rfl, ⟨⟨h.id, h.sq, h.tr, h.dd, h.sl, h.ok, h.cl, h.r2, h.r1, by show f.ch.epoch ≤ _; omega⟩, fun _ => rfl, fun o h1 h2 => ?_⟩⟩
    have h3 : x.slot = some o := h2
    rw [h1] at h3; cases h3
theorem newC_OI (c : Cfg) (n : Int) : OI (newC c n) n 0 0 0 0 := by
  refine ⟨rfl, rfl, rfl, by show (0 : Int) ≤ 0 ∧ (0 : Int) ≤ 3; omega, ⟨fun hh => (by cases hh), fun hh => (by have := hh.1; omega)⟩, fun o ho => (by cases ho), fun hh => absurd rfl hh, fun _ hh => ?_, fun _ hh => ?_, by show (0 : Int) ≤ _; omega⟩
  · have : (0 : Int) = 2 := hh; omega
  · have : (0 : Int) = 1 ∨ (0 : Int) = 3 := hh; omega
theorem OI.callC (h : OI x n epoch tried refused seq) (hs : 0 ≤ seq) (o : Opn) (cl dl now : Int) :
    (x.doing ≠ 0 ∧ Clt.callC c x o cl dl now = (x, 63, none)) ∨ (x.doing = 0 ∧ Clt.callC c x o cl dl now = (x, 2, none)) ∨
    (∃ x' to f, x.doing = 0 ∧ Clt.callC c x o cl dl now = (x', 0, some (to, f)) ∧ ((f.kind = 1 ∧ OI x' n epoch 1 0 (seq + 1)) ∨ (f.kind = 7 ∧ OI x' n epoch 0 0 (seq + 1))) ∧ x'.slot = none) := by
  unfold Clt.callC
  have hq := h.sq
  split
  · rename_i h1; exact .inl ⟨h1, rfl⟩
  rename_i h1
  split
  · exact .inr (.inl ⟨by omega, rfl⟩)
  split
  · refine .inr (.inr ⟨_, _, _, by omega, rfl, .inl ⟨rfl, ?_⟩, rfl⟩)
    refine ⟨h.id, by show x.call.nums 2 + 1 = _; omega, rfl, by show (0 : Int) ≤ 2 ∧ (2 : Int) ≤ 3; omega, ⟨fun hh => (by cases hh), fun hh => ?_⟩, fun o ho => (by cases ho), fun _ => ⟨rfl, rfl, by omega⟩, fun _ _ => (by omega), fun _ hh => ?_, h.ep⟩
    · have : (2 : Int) = 0 := hh.2; omega
    · have : (2 : Int) = 1 ∨ (2 : Int) = 3 := hh; omega
  · refine .inr (.inr ⟨_, _, _, by omega, rfl, .inr ⟨rfl, ?_⟩, rfl⟩)
    refine ⟨h.id, by show x.call.nums 2 + 1 = _; omega, rfl, by show (0 : Int) ≤ 1 ∧ (1 : Int) ≤ 3; omega, ⟨fun hh => (by cases hh), fun hh => ?_⟩, fun o ho => (by cases ho), fun _ => ⟨rfl, rfl, by omega⟩, fun _ hh => ?_, fun _ _ => by omega, h.ep⟩
    · have : (1 : Int) = 0 := hh.2; omega
    · have : (1 : Int) = 2 := hh; omega
end
end Go.Proofs.Ytljipmhkpnigkaa
