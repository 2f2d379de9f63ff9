/- Package master: the contracts of what it takes. -/
import Derived.Test.YtljipmhkpnigkaaMC
import Derived.Test.YtljipmhkpnigkaaMQ
namespace Go.Proofs.Ytljipmhkpnigkaa
open Go.Vc Go.Codec

/-- a frame of a kind: an epoch, an index -/
abbrev frL (kd ep ix : Int) : List Value := [.int .i64 kd, .int .i64 ep, .int .i64 0, .int .i64 0, .int .i64 0, .int .i64 0, .int .i64 0, .int .i64 0, .string (mk []), .string (mk []), .int .i64 0, .int .i64 0, .string (mk []), .int .i64 0, .int .i64 0, .int .i64 0, .int .i64 0, .int .i64 0, .int .i64 0, .int .i64 0, .string (mk []), .string (mk []), .int .i64 0, .int .i64 0, .slice none 0 0, .int .i64 0, .int .i64 ix, .int .i64 0, .int .i64 0]
abbrev frA (kd ep ix : Int) : Value := .agg (frL kd ep ix).toArray
abbrev sndA (g : Nat) (l : List Value) : Atom := .blk g 70 l
section
variable {w0 : World} {b : Nat} {c : Cfg} {cp : Option Addr} {cn ck : Nat} {m : Mst} {p : Option Addr} {k : Nat}
theorem ffM {P : Prop} {m : Mst} (h : (m, false).2 = true) : P := by cases h
theorem malive_tk (h : okM m) {n : Int} (hn : 0 ≤ n ∧ n < 6) (kd ep ix : Int) {now : Int} (hnow : 0 ≤ now ∧ now ≤ 1099511627776) : Tk Try.prog 58 #[.pointer (some ⟨b, 0, none⟩), .int .i64 n, frA kd ep ix, .int .i64 now] [mB b c cp cn ck m p k, mR m.ch.mem p k] fun e L' => ∃ (p' : Option Addr) (n' k' : Nat), e = .returned (.slice p' n' k') ∧ (ep = m.ch.epoch → n' = 0) ∧ L' = [mB b c cp cn ck (m.alive n ep ix now) p k, mR m.ch.mem p k] := by
  intro w0 st
  have hok1 : okM ⟨m.nodes, m.patience, m.ch, m.heard.set n.toNat now, m.whole⟩ := by
    have := h.alive_ok hn (m.ch.epoch + 1) ix hnow
    unfold Mst.alive at this
    rwa [if_neg (by omega)] at this
  refine malive_ok _ _ _ _ _ _ _ _ _ _ _ _ _ _ _ _ _ _ _ _ _ _ _ _ _ _ _ _ _ _ _ _ _ _ _ _ ?_
  unfold malive
  refine St.alloc st ?_; clear st; intro bf w st
  refine ⟨⟨by omega, by omega⟩, ?_⟩
  rw [addAt]
  refine ⟨st.wr 1 (i := 15 + n.toNat) rfl (heardAt h.hl (by omega)), ?_⟩
  refine St.store st 1 rfl ?_
  clear st
  intro w st
  have e2 := heardSet (c := c) (cp := cp) (cn := cn) (ck := ck) (p := p) (k := k) h.hl (i := n.toNat) (by omega) now
  replace st : St _ w0 w [.blk bf _ _, .blk b _ ((mCells c cp cn ck m p k).set (15 + n.toNat) (.int .i64 now)), mR m.ch.mem p k] := st
  rw [e2] at st
  clear e2
  refine ⟨_, st.cell 0 rfl rfl, _, st.cell 1 rfl rfl, Br.nei (fun h1 => ?_) (fun h1 => ?_)⟩
  · replace h1 : ep ≠ m.ch.epoch := h1
    have e : m.alive n ep ix now = ⟨m.nodes, m.patience, m.ch, m.heard.set n.toNat now, m.whole⟩ := by unfold Mst.alive; rw [if_neg (fun hh => h1 hh.1)]
    rw [e]
    refine Tk.go (L1 := [mB b c cp cn ck ⟨m.nodes, m.patience, m.ch, m.heard.set n.toNat now, m.whole⟩ p k, mR m.ch.mem p k]) (L2 := []) (mconfig_tk hok1 n) (st.pick [1, 2] rfl (by decide)) ?_
    clear st
    rintro _ _ w ⟨p2, k2, rfl, rfl⟩ st
    simp only [List.cons_append, List.nil_append] at st
    refine ⟨_, _, _, _, _, _, _, _, _, _, _, _, _, _, _, _, _, _, _, _, _, _, _, _, _, _, _, _, _, _, _, _, rfl, ?_⟩
    refine St.alloc st ?_; clear st; intro bx w st
    exact ⟨_, ⟨_, _, _, rfl, fun hh => absurd hh h1, rfl⟩, st.pick [2, 3] rfl (by decide)⟩
  · replace h1 : ep = m.ch.epoch := h1
    refine Pw.go (mmember_pw (st.hold 1 _ rfl) (ElAt.of_owns memE_len (st.hold 2 _ rfl) rfl) hok1 n) st ?_; clear st; intro w st
    refine ⟨_, rfl, Br.bool (fun h2 => ?_) (fun h2 => ?_)⟩
    · replace h2 : m.has n = true := h2
      refine ⟨_, st.cell 0 rfl rfl, Br.eqi (fun h3 => ?_) (fun h3 => ?_)⟩
      · have e : m.alive n ep ix now = ⟨m.nodes, m.patience, m.ch, m.heard.set n.toNat now, m.whole.set n.toNat true⟩ := by unfold Mst.alive; rw [if_pos ⟨h1, h2, h3⟩]
        rw [e]
        refine ⟨⟨by omega, by omega⟩, ?_⟩
        rw [addAt]
        refine ⟨st.wr 1 (i := 21 + n.toNat) rfl (wholeAt hok1.hl hok1.wl (by omega)), ?_⟩
        refine St.store st 1 rfl ?_
        clear st
        intro w st
        have e2 := wholeSet (c := c) (cp := cp) (cn := cn) (ck := ck) (p := p) (k := k) hok1.hl hok1.wl (i := n.toNat) (by omega) true
        replace st : St _ w0 w [.blk bf _ _, .blk b _ ((mCells c cp cn ck ⟨m.nodes, m.patience, m.ch, m.heard.set n.toNat now, m.whole⟩ p k).set (21 + n.toNat) (.bool true)), mR m.ch.mem p k] := st
        rw [e2] at st
        exact ⟨_, ⟨_, _, _, rfl, fun _ => rfl, rfl⟩, st.pick [1, 2] rfl (by decide)⟩
      · have e : m.alive n ep ix now = ⟨m.nodes, m.patience, m.ch, m.heard.set n.toNat now, m.whole⟩ := by unfold Mst.alive; rw [if_neg (fun hh => h3 hh.2.2)]
        rw [e]
        exact ⟨_, ⟨_, _, _, rfl, fun _ => rfl, rfl⟩, st.pick [1, 2] rfl (by decide)⟩
    · replace h2 : m.has n = false := h2
      have e : m.alive n ep ix now = ⟨m.nodes, m.patience, m.ch, m.heard.set n.toNat now, m.whole⟩ := by unfold Mst.alive; rw [if_neg (fun hh => by rw [h2] at hh; exact absurd hh.2.1 (by decide))]
      rw [e]
      exact ⟨_, ⟨_, _, _, rfl, fun _ => rfl, rfl⟩, st.pick [1, 2] rfl (by decide)⟩
/-- what a tail is told that asks whether its epoch is the one -/
def confA (m : Mst) (n ep ix : Int) (e : Ending) (X : List Atom) : Prop :=
  (ep ≠ m.ch.epoch ∧ ∃ (g : Nat) (p' : Option Addr) (k' : Nat), e = .returned (.slice (some ⟨g, 0, none⟩) 1 1) ∧ X = [sndA g (sendL n 8 0 m.ch.epoch p' m.ch.mem.length k' m.ch.drain 0), mR m.ch.mem p' k']) ∨
  (ep = m.ch.epoch ∧ n = tailC m.ch ∧ ∃ (g : Nat), e = .returned (.slice (some ⟨g, 0, none⟩) 1 1) ∧ X = [sndA g (sendL n 10 ep 0 none 0 0 0 ix)]) ∨
  (ep = m.ch.epoch ∧ n ≠ tailC m.ch ∧ e = .returned (.slice none 0 0) ∧ X = [])
theorem mconfirm_tk (h : okM m) (n kd ep ix : Int) : Tk Try.prog 60 #[.pointer (some ⟨b, 0, none⟩), .int .i64 n, frA kd ep ix] [mB b c cp cn ck m p k, mR m.ch.mem p k] fun e L' => ∃ X, confA m n ep ix e X ∧ L' = X ++ [mB b c cp cn ck m p k, mR m.ch.mem p k] := by
  intro w0 st
  have hl := h.ok.l2
  refine mconfirm_ok _ _ _ _ _ _ _ _ _ _ _ _ _ _ _ _ _ _ _ _ _ _ _ _ _ _ _ _ _ _ _ _ _ _ _ ?_
  unfold mconfirm
  refine St.alloc st ?_; clear st; intro bf w st
  refine ⟨_, st.cell 0 rfl rfl, _, st.cell 1 rfl rfl, Br.nei (fun h1 => ?_) (fun h1 => ?_)⟩
  · refine Tk.go (L1 := [mB b c cp cn ck m p k, mR m.ch.mem p k]) (L2 := []) (mconfig_tk h n) (st.pick [1, 2] rfl (by decide)) ?_
    clear st
    rintro _ _ w ⟨p2, k2, rfl, rfl⟩ st
    simp only [List.cons_append, List.nil_append] at st
    refine ⟨_, _, _, _, _, _, _, _, _, _, _, _, _, _, _, _, _, _, _, _, _, _, _, _, _, _, _, _, _, _, _, _, rfl, ?_⟩
    refine St.alloc st ?_; clear st; intro bx w st
    exact ⟨_, ⟨_, .inl ⟨h1, bx, p2, k2, rfl, rfl⟩, rfl⟩, st⟩
  · refine ⟨_, _, _, _, _, st.rowAt 1 rfl rfl, ?_⟩
    refine Pw.go (ctail_pw (c := m.ch) (ElAt.of_owns memE_len (st.hold 2 _ rfl) rfl) rfl (by omega)) st ?_; clear st; intro w st
    refine ⟨_, rfl, Br.eqi (fun h2 => ?_) (fun h2 => ?_)⟩
    · refine ⟨_, st.cell 0 rfl rfl, _, st.cell 0 rfl rfl, ?_⟩
      refine St.alloc st ?_; clear st; intro bx w st
      exact ⟨_, ⟨_, .inr (.inl ⟨h1, h2, bx, rfl, rfl⟩), rfl⟩, st.pick [0, 2, 3] rfl (by decide)⟩
    · exact ⟨_, ⟨_, .inr (.inr ⟨h1, h2, rfl, rfl⟩), rfl⟩, st.pick [1, 2] rfl (by decide)⟩
theorem mtakeAsk_tk (h : okM m) (n ep ix now : Int) : Tk Try.prog 27 #[.pointer (some ⟨b, 0, none⟩), .int .i64 n, frA 7 ep ix, .int .i64 now] [mB b c cp cn ck m p k, mR m.ch.mem p k] fun e L' => ∃ (g : Nat) (p' : Option Addr) (k' : Nat), e = .returned (.slice (some ⟨g, 0, none⟩) 1 1) ∧ L' = [sndA g (sendL n 8 0 m.ch.epoch p' m.ch.mem.length k' m.ch.drain 0), mR m.ch.mem p' k', mB b c cp cn ck m p k, mR m.ch.mem p k] := by
  intro w0 st
  refine mtake_ok _ _ _ _ _ _ _ _ _ _ _ _ _ _ _ _ _ _ _ _ _ _ _ _ _ _ _ _ _ _ _ _ _ _ _ _ ?_
  unfold mtake
  (refine St.alloc st ?_; clear st; intro bf w st; refine Pw.go (mnone_pw (st.hold 1 _ rfl) h) st ?_; clear st; intro w st; refine ⟨_, rfl, Br.nay rfl ?_⟩; refine ⟨_, st.cell 0 rfl rfl, ?_⟩)
  refine Br.sure rfl ?_
  refine Tk.go (L1 := [mB b c cp cn ck m p k, mR m.ch.mem p k]) (L2 := []) (mconfig_tk h n) (st.pick [1, 2] rfl (by decide)) ?_
  clear st
  rintro _ _ w ⟨p2, k2, rfl, rfl⟩ st
  simp only [List.cons_append, List.nil_append] at st
  refine ⟨_, _, _, _, _, _, _, _, _, _, _, _, _, _, _, _, _, _, _, _, _, _, _, _, _, _, _, _, _, _, _, _, rfl, ?_⟩
  refine St.alloc st ?_; clear st; intro bx w st
  exact ⟨_, ⟨bx, p2, k2, rfl, rfl⟩, st⟩
theorem mtakeAlive_tk (h : okM m) {n : Int} (hn : 0 ≤ n ∧ n < m.nodes) (ep ix now : Int) : Tk Try.prog 27 #[.pointer (some ⟨b, 0, none⟩), .int .i64 n, frA 11 ep ix, .int .i64 now] [mB b c cp cn ck m p k, mR m.ch.mem p k] fun e L' => ∃ (p' : Option Addr) (n' k' : Nat), e = .returned (.slice p' n' k') ∧ (ep = m.ch.epoch → n' = 0) ∧ L' = [mB b c cp cn ck (m.alive n ep ix (nearT now)) p k, mR m.ch.mem p k] := by
  intro w0 st
  have := h.n2
  refine mtake_ok _ _ _ _ _ _ _ _ _ _ _ _ _ _ _ _ _ _ _ _ _ _ _ _ _ _ _ _ _ _ _ _ _ _ _ _ ?_
  unfold mtake
  (refine St.alloc st ?_; clear st; intro bf w st; refine Pw.go (mnone_pw (st.hold 1 _ rfl) h) st ?_; clear st; intro w st; refine ⟨_, rfl, Br.nay rfl ?_⟩; refine ⟨_, st.cell 0 rfl rfl, ?_⟩)
  (refine Br.nay rfl ?_; refine Br.dec (fun h1 => absurd h1 (by omega)) (fun _ => ?_); refine ⟨_, st.cell 1 rfl rfl, ?_⟩; refine Br.dec (fun h1 => absurd h1 (by omega)) (fun _ => ?_); refine ⟨_, st.cell 0 rfl rfl, ?_⟩)
  refine Br.sure rfl ?_
  refine ⟨_, _, _, _, _, _, _, _, _, _, _, _, _, _, _, _, _, _, _, _, _, _, _, _, _, _, _, _, _, _, _, st.rowAt 0 rfl rfl, ?_⟩
  refine Pu.go (mnear_pu now) st ?_; clear st; intro w st
  refine ⟨_, rfl, st.rowAt 0 rfl rfl, ?_⟩
  refine Tk.go (L1 := [mB b c cp cn ck m p k, mR m.ch.mem p k]) (L2 := []) (malive_tk h ⟨hn.1, by omega⟩ 11 ep ix (nearT_in now)) (st.pick [1, 2] rfl (by decide)) ?_
  clear st
  rintro _ _ w ⟨p2, n2, k2, rfl, h2, rfl⟩ st
  exact ⟨_, _, _, rfl, _, ⟨p2, n2, k2, rfl, h2, rfl⟩, st⟩
theorem mtakeConfirm_tk (h : okM m) {n : Int} (hn : 0 ≤ n ∧ n < m.nodes) (ep ix now : Int) : Tk Try.prog 27 #[.pointer (some ⟨b, 0, none⟩), .int .i64 n, frA 9 ep ix, .int .i64 now] [mB b c cp cn ck m p k, mR m.ch.mem p k] fun e L' => ∃ X, confA m n ep ix e X ∧ L' = X ++ [mB b c cp cn ck m p k, mR m.ch.mem p k] := by
  intro w0 st
  refine mtake_ok _ _ _ _ _ _ _ _ _ _ _ _ _ _ _ _ _ _ _ _ _ _ _ _ _ _ _ _ _ _ _ _ _ _ _ _ ?_
  unfold mtake
  (refine St.alloc st ?_; clear st; intro bf w st; refine Pw.go (mnone_pw (st.hold 1 _ rfl) h) st ?_; clear st; intro w st; refine ⟨_, rfl, Br.nay rfl ?_⟩; refine ⟨_, st.cell 0 rfl rfl, ?_⟩)
  (refine Br.nay rfl ?_; refine Br.dec (fun h1 => absurd h1 (by omega)) (fun _ => ?_); refine ⟨_, st.cell 1 rfl rfl, ?_⟩; refine Br.dec (fun h1 => absurd h1 (by omega)) (fun _ => ?_); refine ⟨_, st.cell 0 rfl rfl, ?_⟩)
  refine Br.nay rfl ?_
  refine Br.sure rfl ?_
  refine ⟨_, _, _, _, _, _, _, _, _, _, _, _, _, _, _, _, _, _, _, _, _, _, _, _, _, _, _, _, _, _, _, st.rowAt 0 rfl rfl, ?_⟩
  refine Tk.go (L1 := [mB b c cp cn ck m p k, mR m.ch.mem p k]) (L2 := []) (mconfirm_tk h n 9 ep ix) (st.pick [1, 2] rfl (by decide)) ?_
  clear st
  rintro _ _ w ⟨X, hX, rfl⟩ st
  rw [List.append_nil] at st
  rcases hX with ⟨h1, g, p', k', rfl, rfl⟩ | ⟨h1, h2, g, rfl, rfl⟩ | ⟨h1, h2, rfl, rfl⟩
  · exact ⟨_, _, _, rfl, _, ⟨_, .inl ⟨h1, g, p', k', rfl, rfl⟩, rfl⟩, st⟩
  · exact ⟨_, _, _, rfl, _, ⟨_, .inr (.inl ⟨h1, h2, g, rfl, rfl⟩), rfl⟩, st⟩
  · exact ⟨_, _, _, rfl, _, ⟨_, .inr (.inr ⟨h1, h2, rfl, rfl⟩), rfl⟩, st⟩
theorem mtakeDrained_tk (h : okM m) {n : Int} (hn : 0 ≤ n ∧ n < m.nodes) (ep ix now : Int) (he : m.ch.epoch < 1099511627776) : Tk Try.prog 27 #[.pointer (some ⟨b, 0, none⟩), .int .i64 n, frA 12 ep ix, .int .i64 now] [mB b c cp cn ck m p k, mR m.ch.mem p k] fun e L' => ∃ (X : List Atom) (p' : Option Addr) (n' k' : Nat) (p2 : Option Addr) (k2 : Nat), e = .returned (.slice p' n' k') ∧ ((m.drained n ep).2 = true → (n' : Int) = m.nodes) ∧ L' = X ++ [mB b c cp cn ck (m.drained n ep).1 p2 k2, mR (m.drained n ep).1.ch.mem p2 k2] := by
  intro w0 st
  have hn2 := h.n2
  have hok := h.drained_ok n ep
  refine mtake_ok _ _ _ _ _ _ _ _ _ _ _ _ _ _ _ _ _ _ _ _ _ _ _ _ _ _ _ _ _ _ _ _ _ _ _ _ ?_
  unfold mtake
  (refine St.alloc st ?_; clear st; intro bf w st; refine Pw.go (mnone_pw (st.hold 1 _ rfl) h) st ?_; clear st; intro w st; refine ⟨_, rfl, Br.nay rfl ?_⟩; refine ⟨_, st.cell 0 rfl rfl, ?_⟩)
  (refine Br.nay rfl ?_; refine Br.dec (fun h1 => absurd h1 (by omega)) (fun _ => ?_); refine ⟨_, st.cell 1 rfl rfl, ?_⟩; refine Br.dec (fun h1 => absurd h1 (by omega)) (fun _ => ?_); refine ⟨_, st.cell 0 rfl rfl, ?_⟩)
  refine Br.nay rfl ?_
  refine Br.nay rfl ?_
  refine Br.sure rfl ?_
  refine ⟨_, st.cell 0 rfl rfl, _, st.cell 1 rfl rfl, Br.eqi (fun h1 => ?_) (fun h1 => ?_)⟩
  · refine ⟨_, st.cell 1 rfl rfl, Br.eqi (fun h2 => ?_) (fun h2 => ?_)⟩
    · refine Pw.go (mgoes_pw (st.hold 1 _ rfl) (ElAt.of_owns memE_len (st.hold 2 _ rfl) rfl) h n) st ?_; clear st; intro w st
      refine ⟨_, rfl, Br.bool (fun h3 => ?_) (fun h3 => ?_)⟩
      · have hh := drained_gone h he hn.1 ⟨h1, h2, h3⟩
        have e : m.drained n ep = m.out n := by unfold Mst.drained; rw [if_pos ⟨h1, h2, h3⟩]
        rw [e] at hok hh ⊢
        refine Tk.go (L1 := [mB b c cp cn ck m p k, mR m.ch.mem p k]) (L2 := []) (mout_tk h (n := n) ⟨hn.1, by omega⟩) (st.pick [1, 2] rfl (by decide)) ?_
        clear st
        rintro _ _ w ⟨p2, k2, rfl, rfl⟩ st
        refine ⟨_, rfl, ?_⟩
        rw [hh.1]
        refine Br.sure rfl ?_
        refine Tk.go (L2 := []) (mall_tk hok) st ?_
        clear st
        rintro _ _ w ⟨l, p', k', rfl, hl, rfl⟩ st
        refine ⟨_, _, _, rfl, _, ⟨[_], p', l.length, k', p2, k2, rfl, fun _ => ?_, rfl⟩, st⟩
        have hl2 := congrArg List.length hl
        rw [(out_keeps m n).1] at hl2
        have := h.n1
        simp at hl2
        omega
      · rw [drained_not (fun hh => by rw [h3] at hh; exact absurd hh.2.2 (by decide))]
        exact ⟨_, ⟨[], _, _, _, p, k, rfl, fun hh => ffM hh, rfl⟩, st.pick [1, 2] rfl (by decide)⟩
    · rw [drained_not (fun hh => h2 hh.2.1)]
      exact ⟨_, ⟨[], _, _, _, p, k, rfl, fun hh => ffM hh, rfl⟩, st.pick [1, 2] rfl (by decide)⟩
  · rw [drained_not (fun hh => h1 hh.1)]
    exact ⟨_, ⟨[], _, _, _, p, k, rfl, fun hh => ffM hh, rfl⟩, st.pick [1, 2] rfl (by decide)⟩
end
end Go.Proofs.Ytljipmhkpnigkaa
