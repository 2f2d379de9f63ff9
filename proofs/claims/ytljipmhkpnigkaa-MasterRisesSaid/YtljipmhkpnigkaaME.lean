/- Package master: Join, Tick, New; two chains that are the same. -/
import Derived.Test.YtljipmhkpnigkaaMD
namespace Go.Proofs.Ytljipmhkpnigkaa
open Go.Vc Go.Codec
theorem tooM {P : Prop} {m : Mst} (h : (m, (2 : Int)).2 = 0) : P := absurd h (by decide : ¬ ((2 : Int) = 0))
section
variable {w0 : World} {b : Nat} {c : Cfg} {cp : Option Addr} {cn ck : Nat} {m : Mst} {p : Option Addr} {k : Nat}
set_option maxHeartbeats 1000000 in
theorem mjoin_tk (h : okM m) (n now : Int) : Tk Try.prog 29 #[.pointer (some ⟨b, 0, none⟩), .int .i64 n, .int .i64 now] [mB b c cp cn ck m p k, mR m.ch.mem p k] fun e L' => ∃ (q : Option Addr) (x y : Nat) (p2 : Option Addr) (k2 : Nat), e = .returned (.tuple #[.slice q x y, .int .i64 (m.join n now).2]) ∧ ((m.join n now).2 = 0 → (x : Int) = m.nodes) ∧ L' = [mB b c cp cn ck (m.join n now).1 p2 k2, mR (m.join n now).1.ch.mem p2 k2] := by
  intro w0 st
  have hl := h.ok.l2
  have hn2 := h.n2
  have hok := h.join_ok n now
  refine mjoin_ok _ _ _ _ _ ?_
  unfold mjoin
  refine Pw.go (mnone_pw (st.hold 0 _ rfl) h) st ?_; clear st; intro w st
  refine ⟨_, rfl, Br.nay rfl ?_⟩
  refine Br.dec (fun h1 => ?_) (fun h1 => ?_)
  · have e : m.join n now = (m, 2) := by unfold Mst.join; rw [if_pos (.inl h1)]
    rw [e]
    exact ⟨_, ⟨_, _, _, p, k, rfl, fun hh => tooM hh, rfl⟩, st⟩
  refine ⟨_, st.cell 0 rfl rfl, ?_⟩
  refine Br.dec (fun h2 => ?_) (fun h2 => ?_)
  · have e : m.join n now = (m, 2) := by unfold Mst.join; rw [if_pos (.inr h2)]
    rw [e]
    exact ⟨_, ⟨_, _, _, p, k, rfl, fun hh => tooM hh, rfl⟩, st⟩
  refine ⟨_, _, _, _, _, st.rowAt 0 rfl rfl, ?_⟩
  refine (cwith_ca (c := m.ch) (ElAt.of_owns memE_len (st.hold 1 _ rfl) rfl) rfl (by omega) n).mono ?_
  rintro _ w1 ⟨_, rfl, p', k', rfl, ho, hk⟩
  replace st := st.pushRow0 hk ho (Nat.le_refl _)
  clear ho hk
  refine ⟨_, _, _, _, _, _, rfl, ?_⟩
  repeat' first
    | (with_reducible refine St.alloc st ?_; (try clear st); intro b w st)
    | with_reducible refine sz_and (by (repeat rw [ByteArray.size_append]); omega) ?_
    | (with_reducible apply ex0c; case h => first | exact St.cell st 0 rfl rfl | exact St.cell st 1 rfl rfl | exact St.cell st 2 rfl rfl | exact St.cell st 3 rfl rfl | fail)
    | (with_reducible apply ex1c; case h => first | exact St.cell st 0 rfl rfl | exact St.cell st 1 rfl rfl | exact St.cell st 2 rfl rfl | exact St.cell st 3 rfl rfl | fail)
    | (with_reducible apply ex3c; case h => first | exact St.cell st 0 rfl rfl | exact St.cell st 1 rfl rfl | exact St.cell st 2 rfl rfl | exact St.cell st 3 rfl rfl | fail)
    | (with_reducible apply ex0r; case h => first | exact St.rows st 0 rfl | exact St.rows st 1 rfl | exact St.rows st 2 rfl | exact St.rows st 3 rfl | fail)
    | (with_reducible apply exr2; case h => first | exact St.rows st 0 rfl | exact St.rows st 1 rfl | exact St.rows st 2 rfl | exact St.rows st 3 rfl | fail)
    | (with_reducible apply exr3; case h => first | exact St.rows st 0 rfl | exact St.rows st 1 rfl | exact St.rows st 2 rfl | exact St.rows st 3 rfl | fail)
    | (with_reducible apply exr4; case h => first | exact St.rows st 0 rfl | exact St.rows st 1 rfl | exact St.rows st 2 rfl | exact St.rows st 3 rfl | fail)
    | (with_reducible apply exr5; case h => first | exact St.rows st 0 rfl | exact St.rows st 1 rfl | exact St.rows st 2 rfl | exact St.rows st 3 rfl | fail)
    | (with_reducible apply exr6; case h => first | exact St.rows st 0 rfl | exact St.rows st 1 rfl | exact St.rows st 2 rfl | exact St.rows st 3 rfl | fail)
    | (with_reducible apply exWr; case h => first | exact St.wr st 0 rfl rfl | exact St.wr st 1 rfl rfl | exact St.wr st 2 rfl rfl | exact St.wr st 3 rfl rfl | fail)
    | (with_reducible apply exWrRow; case h => first | exact St.wrRow st 0 rfl rfl rfl | exact St.wrRow st 1 rfl rfl rfl | exact St.wrRow st 2 rfl rfl rfl | exact St.wrRow st 3 rfl rfl rfl | fail)
    | (with_reducible refine LetW.cell ?_; (first | refine St.store st 0 rfl ?_ | refine St.store st 1 rfl ?_ | refine St.store st 2 rfl ?_ | refine St.store st 3 rfl ?_ | fail); (try clear st); intro w st; simp only [List.set] at st)
    | (with_reducible refine LetW.rows ?_; (first | refine St.storeRow st 0 rfl ?_ | refine St.storeRow st 1 rfl ?_ | refine St.storeRow st 2 rfl ?_ | refine St.storeRow st 3 rfl ?_ | fail); (try clear st); intro w st; simp only [List.set, setsL] at st)
    | ((with_reducible apply exr4); case h => first | exact St.rowAt st 0 rfl rfl | exact St.rowAt st 1 rfl rfl | exact St.rowAt st 2 rfl rfl | exact St.rowAt st 3 rfl rfl | fail)
    | ((with_reducible apply exr5); case h => first | exact St.rowAt st 0 rfl rfl | exact St.rowAt st 1 rfl rfl | exact St.rowAt st 2 rfl rfl | exact St.rowAt st 3 rfl rfl | fail)
    | ((with_reducible apply exr6); case h => first | exact St.rowAt st 0 rfl rfl | exact St.rowAt st 1 rfl rfl | exact St.rowAt st 2 rfl rfl | exact St.rowAt st 3 rfl rfl | fail)
    | with_reducible refine LetI.id (by omega) (by omega) ?_
    | fail
  refine Br.nei (fun h3 => ?_) (fun h3 => ?_)
  · have e : m.join n now = (m, (withC m.ch n).2) := by unfold Mst.join; rw [if_neg (by omega), if_pos h3]
    rw [e]
    exact ⟨_, ⟨_, _, _, p, k, rfl, fun hh => absurd hh h3, rfl⟩, st.pick [2, 3] rfl (by decide)⟩
  · have e : m.join n now = (⟨m.nodes, m.patience, (withC m.ch n).1, m.heard.set n.toNat (nearT now), m.whole.set n.toNat false⟩, 0) := by unfold Mst.join; rw [if_neg (by omega), if_neg (by omega)]
    rw [e] at hok ⊢
    refine ⟨_, _, _, _, _, st.rowAt 0 rfl rfl, ?_⟩
    refine Pu.go (mnear_pu now) st ?_; clear st; intro w st
    refine ⟨_, rfl, st.rowAt 0 rfl rfl, ?_⟩
    repeat' first
      | (with_reducible refine St.alloc st ?_; (try clear st); intro b w st)
      | with_reducible refine sz_and (by (repeat rw [ByteArray.size_append]); omega) ?_
      | (with_reducible apply ex0c; case h => first | exact St.cell st 0 rfl rfl | exact St.cell st 1 rfl rfl | exact St.cell st 2 rfl rfl | exact St.cell st 3 rfl rfl | fail)
      | (with_reducible apply ex1c; case h => first | exact St.cell st 0 rfl rfl | exact St.cell st 1 rfl rfl | exact St.cell st 2 rfl rfl | exact St.cell st 3 rfl rfl | fail)
      | (with_reducible apply ex3c; case h => first | exact St.cell st 0 rfl rfl | exact St.cell st 1 rfl rfl | exact St.cell st 2 rfl rfl | exact St.cell st 3 rfl rfl | fail)
      | (with_reducible apply ex0r; case h => first | exact St.rows st 0 rfl | exact St.rows st 1 rfl | exact St.rows st 2 rfl | exact St.rows st 3 rfl | fail)
      | (with_reducible apply exr2; case h => first | exact St.rows st 0 rfl | exact St.rows st 1 rfl | exact St.rows st 2 rfl | exact St.rows st 3 rfl | fail)
      | (with_reducible apply exr3; case h => first | exact St.rows st 0 rfl | exact St.rows st 1 rfl | exact St.rows st 2 rfl | exact St.rows st 3 rfl | fail)
      | (with_reducible apply exr4; case h => first | exact St.rows st 0 rfl | exact St.rows st 1 rfl | exact St.rows st 2 rfl | exact St.rows st 3 rfl | fail)
      | (with_reducible apply exr5; case h => first | exact St.rows st 0 rfl | exact St.rows st 1 rfl | exact St.rows st 2 rfl | exact St.rows st 3 rfl | fail)
      | (with_reducible apply exr6; case h => first | exact St.rows st 0 rfl | exact St.rows st 1 rfl | exact St.rows st 2 rfl | exact St.rows st 3 rfl | fail)
      | (with_reducible apply exWr; case h => first | exact St.wr st 0 rfl rfl | exact St.wr st 1 rfl rfl | exact St.wr st 2 rfl rfl | exact St.wr st 3 rfl rfl | fail)
      | (with_reducible apply exWrRow; case h => first | exact St.wrRow st 0 rfl rfl rfl | exact St.wrRow st 1 rfl rfl rfl | exact St.wrRow st 2 rfl rfl rfl | exact St.wrRow st 3 rfl rfl rfl | fail)
      | (with_reducible refine LetW.cell ?_; (first | refine St.store st 0 rfl ?_ | refine St.store st 1 rfl ?_ | refine St.store st 2 rfl ?_ | refine St.store st 3 rfl ?_ | fail); (try clear st); intro w st; simp only [List.set] at st)
      | (with_reducible refine LetW.rows ?_; (first | refine St.storeRow st 0 rfl ?_ | refine St.storeRow st 1 rfl ?_ | refine St.storeRow st 2 rfl ?_ | refine St.storeRow st 3 rfl ?_ | fail); (try clear st); intro w st; simp only [List.set, setsL] at st)
      | ((with_reducible apply exr4); case h => first | exact St.rowAt st 0 rfl rfl | exact St.rowAt st 1 rfl rfl | exact St.rowAt st 2 rfl rfl | exact St.rowAt st 3 rfl rfl | fail)
      | ((with_reducible apply exr5); case h => first | exact St.rowAt st 0 rfl rfl | exact St.rowAt st 1 rfl rfl | exact St.rowAt st 2 rfl rfl | exact St.rowAt st 3 rfl rfl | fail)
      | ((with_reducible apply exr6); case h => first | exact St.rowAt st 0 rfl rfl | exact St.rowAt st 1 rfl rfl | exact St.rowAt st 2 rfl rfl | exact St.rowAt st 3 rfl rfl | fail)
      | with_reducible refine LetI.id (by omega) (by omega) ?_
      | fail
    replace st : St _ w0 _ [_, _, mB _ c cp cn ck ⟨m.nodes, m.patience, (withC m.ch n).1, m.heard, m.whole⟩ p' k', _] := st
    refine ⟨⟨by omega, by omega⟩, ?_⟩
    rw [addAt]
    refine ⟨st.wr 2 (i := 21 + n.toNat) rfl (wholeAt (i := n.toNat) (m := ⟨m.nodes, m.patience, (withC m.ch n).1, m.heard, m.whole⟩) (p := p') (k := k') h.hl h.wl (by omega)), ?_⟩
    refine St.store st 2 rfl ?_
    clear st
    intro w st
    have e2 := wholeSet (c := c) (cp := cp) (cn := cn) (ck := ck) (m := ⟨m.nodes, m.patience, (withC m.ch n).1, m.heard, m.whole⟩) (p := p') (k := k') h.hl h.wl (i := n.toNat) (by omega) false
    replace st : St _ w0 w [_, _, .blk _ _ ((mCells c cp cn ck ⟨m.nodes, m.patience, (withC m.ch n).1, m.heard, m.whole⟩ p' k').set (21 + n.toNat) (.bool false)), _] := st
    rw [e2] at st
    clear e2
    refine ⟨⟨by omega, by omega⟩, ?_⟩
    rw [addAt]
    refine ⟨st.wr 2 (i := 15 + n.toNat) rfl (heardAt (i := n.toNat) (m := ⟨m.nodes, m.patience, (withC m.ch n).1, m.heard, m.whole.set n.toNat false⟩) (p := p') (k := k') h.hl (by omega)), ?_⟩
    refine St.store st 2 rfl ?_
    clear st
    intro w st
    have e2 := heardSet (c := c) (cp := cp) (cn := cn) (ck := ck) (m := ⟨m.nodes, m.patience, (withC m.ch n).1, m.heard, m.whole.set n.toNat false⟩) (p := p') (k := k') h.hl (i := n.toNat) (by omega) (nearT now)
    replace st : St _ w0 w [_, _, .blk _ _ ((mCells c cp cn ck ⟨m.nodes, m.patience, (withC m.ch n).1, m.heard, m.whole.set n.toNat false⟩ p' k').set (15 + n.toNat) (.int .i64 (nearT now))), _] := st
    rw [e2] at st
    clear e2
    refine Tk.go (L1 := [mB _ c cp cn ck ⟨m.nodes, m.patience, (withC m.ch n).1, m.heard.set n.toNat (nearT now), m.whole.set n.toNat false⟩ p' k', mR (withC m.ch n).1.mem p' k']) (L2 := []) (mall_tk hok) (st.pick [2, 1] rfl (by decide)) ?_
    clear st
    rintro _ _ w ⟨l, p2, k2, rfl, hl, rfl⟩ st
    refine ⟨_, _, _, rfl, _, ⟨_, _, _, p', k', rfl, fun _ => ?_, rfl⟩, st.tail⟩
    have hl2 := congrArg List.length hl
    have := h.n1
    simp at hl2
    omega
/-- Suspect, and Drain, in short -/
theorem msuspect_u (h : okM m) (n : Int) : Tk Try.prog 30 #[.pointer (some ⟨b, 0, none⟩), .int .i64 n] [mB b c cp cn ck m p k, mR m.ch.mem p k] fun e L' => ∃ (q : Option Addr) (x y : Nat) (p2 : Option Addr) (k2 : Nat), e = .returned (.tuple #[.slice q x y, .int .i64 (m.suspect n).2]) ∧ ((m.suspect n).2 = 0 → (x : Int) = m.nodes) ∧ L' = [mB b c cp cn ck (m.suspect n).1 p2 k2, mR (m.suspect n).1.ch.mem p2 k2] := by
  intro w0 st
  refine (msuspect_tk h n w0 st).mono ?_
  rintro _ w1 ⟨_, ⟨h1, rfl, rfl⟩ | ⟨h1, l, p', k', p2, k2, rfl, hl, rfl⟩, st⟩
  · have e : m.suspect n = (m, m.leaves n) := by unfold Mst.suspect; rw [if_pos h1]
    rw [e]
    exact ⟨_, ⟨_, _, _, p, k, rfl, fun hh => absurd hh h1, rfl⟩, st⟩
  · have e : (m.suspect n).2 = 0 := by unfold Mst.suspect; rw [if_neg (by omega)]
    rw [e]
    refine ⟨_, ⟨_, _, _, p2, k2, rfl, fun _ => ?_, rfl⟩, st.tail⟩
    have hl2 := congrArg List.length hl
    have := h.n1
    simp at hl2
    omega
theorem mdrain_u (h : okM m) (n : Int) : Tk Try.prog 34 #[.pointer (some ⟨b, 0, none⟩), .int .i64 n] [mB b c cp cn ck m p k, mR m.ch.mem p k] fun e L' => ∃ (q : Option Addr) (x y : Nat) (p2 : Option Addr) (k2 : Nat), e = .returned (.tuple #[.slice q x y, .int .i64 (m.drain n).2]) ∧ ((m.drain n).2 = 0 → (x : Int) = m.nodes) ∧ L' = [mB b c cp cn ck (m.drain n).1 p2 k2, mR (m.drain n).1.ch.mem p2 k2] := by
  intro w0 st
  refine (mdrain_tk h n w0 st).mono ?_
  rintro _ w1 ⟨_, ⟨h1, rfl, h2, rfl⟩ | ⟨h1, l, p', k', p2, k2, rfl, hl, rfl⟩, st⟩
  · rw [h2]
    exact ⟨_, ⟨_, _, _, p, k, rfl, fun hh => absurd hh h1, rfl⟩, st⟩
  · rw [h1]
    refine ⟨_, ⟨_, _, _, p2, k2, rfl, fun _ => ?_, rfl⟩, st.tail⟩
    have hl2 := congrArg List.length hl
    have := h.n1
    simp at hl2
    omega
set_option maxHeartbeats 1000000 in
theorem mtick_tk (h : okM m) (now : Int) : Tk Try.prog 31 #[.pointer (some ⟨b, 0, none⟩), .int .i64 now] [mB b c cp cn ck m p k, mR m.ch.mem p k] fun e L' => ∃ (p2 : Option Addr) (k2 : Nat),
    ((m.tick now).ch.epoch = m.ch.epoch ∧ e = .returned (.slice none 0 0) ∧ L' = [mB b c cp cn ck (m.tick now) p2 k2, mR (m.tick now).ch.mem p2 k2]) ∨
    ((m.tick now).ch.epoch ≠ m.ch.epoch ∧ ∃ (l : List Told) (p' : Option Addr) (k' : Nat), e = .returned (.slice p' l.length k') ∧ (l.map (·.to)) = (List.range m.nodes.toNat).map (fun (i : Nat) => (i : Int)) ∧ L' = [toldA (m.tick now).ch l p' k', mB b c cp cn ck (m.tick now) p2 k2, mR (m.tick now).ch.mem p2 k2]) := by
  intro w0 st
  have hl := h.ok.l2
  refine mtick_ok _ _ _ _ ?_
  unfold mtick
  refine Pw.go (mnone_pw (st.hold 0 _ rfl) h) st ?_; clear st; intro w st
  refine ⟨_, rfl, Br.nay rfl ?_⟩
  refine ⟨_, st.cell 0 rfl rfl, ?_⟩
  refine ⟨_, _, _, _, _, st.rowAt 0 rfl rfl, ?_⟩
  refine (mown_ca (c := m.ch) (ElAt.of_owns memE_len (st.hold 1 _ rfl) rfl) rfl (by omega)).mono ?_
  rintro _ w1 ⟨po, ko, rfl, st1⟩
  replace st := st.made st1
  clear st1
  simp only [List.cons_append, List.nil_append] at st
  refine ⟨_, _, _, _, _, rfl, ?_⟩
  refine ⟨fun q v w' => ∃ (j : Nat) (mm : Mst) (p2 : Option Addr) (k2 : Nat), v = [.int .i64 (j : Int)] ∧ q = m.ch.mem.length - j ∧ j ≤ m.ch.mem.length ∧ okM mm ∧ mm.nodes = m.nodes ∧ (m.ch.mem.drop j).foldl (Mst.tick1 now) mm = m.tick now ∧ St (feet [mB b c cp cn ck m p k, mR m.ch.mem p k]) w0 w' [mR m.ch.mem po ko, mB b c cp cn ck mm p2 k2, mR mm.ch.mem p2 k2], ⟨_, 0, m, p, k, rfl, rfl, by omega, h, rfl, rfl, st⟩, ?_⟩
  clear st
  rintro _ _ w ⟨j, mm, p2, k2, hv, rfl, hj, hok, hns, hf, st⟩
  obtain rfl : _ = _ := by simpa using hv
  clear hv
  refine Br.dec (fun h1 => ?_) (fun h1 => ?_)
  · have hjl : j < m.ch.mem.length := by omega
    obtain ⟨a, ha, hr⟩ := (ElAt.of_owns memE_len (st.hold 0 _ rfl) rfl : MemAt w po m.ch.mem) j hjl
    have hx := h.node (List.getElem_mem hjl)
    rw [List.drop_eq_getElem_cons hjl, List.foldl_cons] at hf
    refine NilOk.intro ha ⟨⟨by omega, by omega⟩, _, _, hr, ?_⟩
    clear ha hr
    generalize m.ch.mem[j] = x at *
    have hlen : (m.ch.mem.length - (j + 1)) < m.ch.mem.length - j := by omega
    refine St.alloc st ?_; clear st; intro bx w st
    repeat' first
      | (with_reducible refine St.alloc st ?_; (try clear st); intro b w st)
      | with_reducible refine sz_and (by (repeat rw [ByteArray.size_append]); omega) ?_
      | (with_reducible apply ex0c; case h => first | exact St.cell st 0 rfl rfl | exact St.cell st 1 rfl rfl | exact St.cell st 2 rfl rfl | exact St.cell st 3 rfl rfl | exact St.cell st 4 rfl rfl | fail)
      | (with_reducible apply ex1c; case h => first | exact St.cell st 0 rfl rfl | exact St.cell st 1 rfl rfl | exact St.cell st 2 rfl rfl | exact St.cell st 3 rfl rfl | exact St.cell st 4 rfl rfl | fail)
      | (with_reducible apply ex3c; case h => first | exact St.cell st 0 rfl rfl | exact St.cell st 1 rfl rfl | exact St.cell st 2 rfl rfl | exact St.cell st 3 rfl rfl | exact St.cell st 4 rfl rfl | fail)
      | (with_reducible apply ex0r; case h => first | exact St.rows st 0 rfl | exact St.rows st 1 rfl | exact St.rows st 2 rfl | exact St.rows st 3 rfl | exact St.rows st 4 rfl | fail)
      | (with_reducible apply exr2; case h => first | exact St.rows st 0 rfl | exact St.rows st 1 rfl | exact St.rows st 2 rfl | exact St.rows st 3 rfl | exact St.rows st 4 rfl | fail)
      | (with_reducible apply exr3; case h => first | exact St.rows st 0 rfl | exact St.rows st 1 rfl | exact St.rows st 2 rfl | exact St.rows st 3 rfl | exact St.rows st 4 rfl | fail)
      | (with_reducible apply exr4; case h => first | exact St.rows st 0 rfl | exact St.rows st 1 rfl | exact St.rows st 2 rfl | exact St.rows st 3 rfl | exact St.rows st 4 rfl | fail)
      | (with_reducible apply exr5; case h => first | exact St.rows st 0 rfl | exact St.rows st 1 rfl | exact St.rows st 2 rfl | exact St.rows st 3 rfl | exact St.rows st 4 rfl | fail)
      | (with_reducible apply exr6; case h => first | exact St.rows st 0 rfl | exact St.rows st 1 rfl | exact St.rows st 2 rfl | exact St.rows st 3 rfl | exact St.rows st 4 rfl | fail)
      | (with_reducible apply exWr; case h => first | exact St.wr st 0 rfl rfl | exact St.wr st 1 rfl rfl | exact St.wr st 2 rfl rfl | exact St.wr st 3 rfl rfl | exact St.wr st 4 rfl rfl | fail)
      | (with_reducible apply exWrRow; case h => first | exact St.wrRow st 0 rfl rfl rfl | exact St.wrRow st 1 rfl rfl rfl | exact St.wrRow st 2 rfl rfl rfl | exact St.wrRow st 3 rfl rfl rfl | exact St.wrRow st 4 rfl rfl rfl | fail)
      | (with_reducible refine LetW.cell ?_; (first | refine St.store st 0 rfl ?_ | refine St.store st 1 rfl ?_ | refine St.store st 2 rfl ?_ | refine St.store st 3 rfl ?_ | refine St.store st 4 rfl ?_ | fail); (try clear st); intro w st; simp only [List.set] at st)
      | (with_reducible refine LetW.rows ?_; (first | refine St.storeRow st 0 rfl ?_ | refine St.storeRow st 1 rfl ?_ | refine St.storeRow st 2 rfl ?_ | refine St.storeRow st 3 rfl ?_ | refine St.storeRow st 4 rfl ?_ | fail); (try clear st); intro w st; simp only [List.set, setsL] at st)
      | ((with_reducible apply exr4); case h => first | exact St.rowAt st 0 rfl rfl | exact St.rowAt st 1 rfl rfl | exact St.rowAt st 2 rfl rfl | exact St.rowAt st 3 rfl rfl | exact St.rowAt st 4 rfl rfl | fail)
      | ((with_reducible apply exr5); case h => first | exact St.rowAt st 0 rfl rfl | exact St.rowAt st 1 rfl rfl | exact St.rowAt st 2 rfl rfl | exact St.rowAt st 3 rfl rfl | exact St.rowAt st 4 rfl rfl | fail)
      | ((with_reducible apply exr6); case h => first | exact St.rowAt st 0 rfl rfl | exact St.rowAt st 1 rfl rfl | exact St.rowAt st 2 rfl rfl | exact St.rowAt st 3 rfl rfl | exact St.rowAt st 4 rfl rfl | fail)
      | with_reducible refine LetI.id (by omega) (by omega) ?_
      | fail
    have hh := hok.hl
    refine ⟨⟨by omega, by omega⟩, _, by rw [addAt]; exact st.cell 2 (i := 15 + x.1.toNat) rfl (heardAt hok.hl (by omega)), _, st.cell 2 rfl rfl, ?_⟩
    refine Pu.go (mnear_pu now) st ?_; clear st; intro w st
    refine ⟨_, rfl, st.cell 2 rfl rfl, by rw [addAt]; exact st.cell 2 (i := 15 + x.1.toNat) rfl (heardAt hok.hl (by omega)), st.cell 0 rfl rfl, ?_⟩
    have hnt := nearT_in now
    have hhr : 0 ≤ mm.heard.getD x.1.toNat 0 ∧ mm.heard.getD x.1.toNat 0 ≤ 1099511627776 := by
      rw [List.getD_eq_getElem?_getD, List.getElem?_eq_getElem (by omega)]
      exact hok.hr _ (List.getElem_mem (by omega))
    refine LetI.id (by omega) (by omega) ?_
    have hno : ¬ mm.late x.1 now → mm.tick1 now x = mm := fun hh => by unfold Mst.tick1; rw [if_neg hh]
    refine Br.dec (fun h2 => ?_) (fun h2 => ?_)
    · refine ⟨_, st.cell 0 rfl rfl, ?_⟩
      refine Pw.go (mgoes_pw (st.hold 2 _ rfl) (ElAt.of_owns memE_len (st.hold 3 _ rfl) rfl) hok x.1) st ?_; clear st; intro w st
      refine ⟨_, rfl, Br.bool (fun h3 => ?_) (fun h3 => ?_)⟩
      · refine ⟨_, st.cell 0 rfl rfl, ?_⟩
        have e : mm.tick1 now x = (mm.out x.1).1 := by unfold Mst.tick1; rw [if_pos ⟨h2, h3⟩]
        have hok2 := hok.tick1_ok now x
        rw [e] at hf hok2
        refine Tk.go (L1 := [mB b c cp cn ck mm p2 k2, mR mm.ch.mem p2 k2]) (L2 := [mR m.ch.mem po ko]) (mout_tk hok hx) (st.pick [2, 3, 1] rfl (by decide)) ?_
        clear st
        rintro _ _ w ⟨p3, k3, rfl, rfl⟩ st
        refine ⟨_, rfl, ?_⟩
        refine LetI.id (by omega) (by omega) ⟨_, hlen, j + 1, _, p3, k3, by simp, rfl, by omega, hok2, (out_keeps mm x.1).1.trans hns, hf, st.pick [2, 0, 1] rfl (by decide)⟩
      · rw [hno (fun hh => by have h4 := hh.2; rw [h3] at h4; exact absurd h4 (by decide))] at hf
        exact LetI.id (by omega) (by omega) ⟨_, hlen, j + 1, _, p2, k2, by simp, rfl, by omega, hok, hns, hf, st.pick [1, 2, 3] rfl (by decide)⟩
    · rw [hno (fun hh => h2 hh.1)] at hf
      exact LetI.id (by omega) (by omega) ⟨_, hlen, j + 1, _, p2, k2, by simp, rfl, by omega, hok, hns, hf, st.pick [1, 2, 3] rfl (by decide)⟩
  · rw [List.drop_eq_nil_of_le (by omega)] at hf
    obtain rfl : mm = m.tick now := hf
    refine ⟨_, st.cell 1 rfl rfl, Br.eqi (fun h2 => ?_) (fun h2 => ?_)⟩
    · exact ⟨_, ⟨p2, k2, .inl ⟨h2, rfl, rfl⟩⟩, st.tail⟩
    · refine Tk.go (L1 := [mB b c cp cn ck (m.tick now) p2 k2, mR (m.tick now).ch.mem p2 k2]) (L2 := []) (mall_tk hok) st.tail ?_
      clear st
      rintro _ _ w ⟨l, p', k', rfl, hl, rfl⟩ st
      rw [hns] at hl
      exact ⟨_, _, _, rfl, _, ⟨p2, k2, .inr ⟨h2, l, p', k', rfl, hl, rfl⟩⟩, st⟩
end
theorem samec19_pw {w0 : World} {n k n' k' : Nat} {p p' : Option Addr} {c d : Chn} (ha : MemAt w0 p c.mem) (hb : MemAt w0 p' d.mem) (hn : n = c.mem.length) (hn' : n' = d.mem.length) (hl : c.mem.length ≤ 4611686018427387904) :
    Pw Try.prog 35 #[chV c.epoch p n k c.drain, chV d.epoch p' n' k' d.drain] (.bool (decide (c = d))) w0 := by
  subst hn hn'
  have st : St No w0 w0 [] := St.start w0
  refine samec19_ok _ _ _ _ _ _ _ _ _ _ _ _ ?_
  unfold samec19
  refine St.alloc st ?_; clear st; intro bb w st
  repeat' first
    | (with_reducible refine St.alloc st ?_; (try clear st); intro b w st)
    | with_reducible refine sz_and (by (repeat rw [ByteArray.size_append]); omega) ?_
    | (with_reducible apply ex0c; case h => first | exact St.cell st 0 rfl rfl | exact St.cell st 1 rfl rfl | exact St.cell st 2 rfl rfl | exact St.cell st 3 rfl rfl | fail)
    | (with_reducible apply ex1c; case h => first | exact St.cell st 0 rfl rfl | exact St.cell st 1 rfl rfl | exact St.cell st 2 rfl rfl | exact St.cell st 3 rfl rfl | fail)
    | (with_reducible apply ex3c; case h => first | exact St.cell st 0 rfl rfl | exact St.cell st 1 rfl rfl | exact St.cell st 2 rfl rfl | exact St.cell st 3 rfl rfl | fail)
    | (with_reducible apply ex0r; case h => first | exact St.rows st 0 rfl | exact St.rows st 1 rfl | exact St.rows st 2 rfl | exact St.rows st 3 rfl | fail)
    | (with_reducible apply exr2; case h => first | exact St.rows st 0 rfl | exact St.rows st 1 rfl | exact St.rows st 2 rfl | exact St.rows st 3 rfl | fail)
    | (with_reducible apply exr3; case h => first | exact St.rows st 0 rfl | exact St.rows st 1 rfl | exact St.rows st 2 rfl | exact St.rows st 3 rfl | fail)
    | (with_reducible apply exr4; case h => first | exact St.rows st 0 rfl | exact St.rows st 1 rfl | exact St.rows st 2 rfl | exact St.rows st 3 rfl | fail)
    | (with_reducible apply exr5; case h => first | exact St.rows st 0 rfl | exact St.rows st 1 rfl | exact St.rows st 2 rfl | exact St.rows st 3 rfl | fail)
    | (with_reducible apply exr6; case h => first | exact St.rows st 0 rfl | exact St.rows st 1 rfl | exact St.rows st 2 rfl | exact St.rows st 3 rfl | fail)
    | (with_reducible apply exWr; case h => first | exact St.wr st 0 rfl rfl | exact St.wr st 1 rfl rfl | exact St.wr st 2 rfl rfl | exact St.wr st 3 rfl rfl | fail)
    | (with_reducible apply exWrRow; case h => first | exact St.wrRow st 0 rfl rfl rfl | exact St.wrRow st 1 rfl rfl rfl | exact St.wrRow st 2 rfl rfl rfl | exact St.wrRow st 3 rfl rfl rfl | fail)
    | (with_reducible refine LetW.cell ?_; (first | refine St.store st 0 rfl ?_ | refine St.store st 1 rfl ?_ | refine St.store st 2 rfl ?_ | refine St.store st 3 rfl ?_ | fail); (try clear st); intro w st; simp only [List.set] at st)
    | (with_reducible refine LetW.rows ?_; (first | refine St.storeRow st 0 rfl ?_ | refine St.storeRow st 1 rfl ?_ | refine St.storeRow st 2 rfl ?_ | refine St.storeRow st 3 rfl ?_ | fail); (try clear st); intro w st; simp only [List.set, setsL] at st)
    | ((with_reducible apply exr4); case h => first | exact St.rowAt st 0 rfl rfl | exact St.rowAt st 1 rfl rfl | exact St.rowAt st 2 rfl rfl | exact St.rowAt st 3 rfl rfl | fail)
    | ((with_reducible apply exr5); case h => first | exact St.rowAt st 0 rfl rfl | exact St.rowAt st 1 rfl rfl | exact St.rowAt st 2 rfl rfl | exact St.rowAt st 3 rfl rfl | fail)
    | ((with_reducible apply exr6); case h => first | exact St.rowAt st 0 rfl rfl | exact St.rowAt st 1 rfl rfl | exact St.rowAt st 2 rfl rfl | exact St.rowAt st 3 rfl rfl | fail)
    | with_reducible refine LetI.id (by omega) (by omega) ?_
    | with_reducible refine Br.dec (fun h => ?_) (fun h => ?_)
    | with_reducible refine Br.eqi (fun h => ?_) (fun h => ?_)
    | with_reducible refine Br.nei (fun h => ?_) (fun h => ?_)
    | with_reducible refine Br.eqs' (fun h => ?_) (fun h => ?_)
    | with_reducible refine Br.eqs (fun h => ?_) (fun h => ?_)
    | with_reducible refine Br.not ?_
    | with_reducible refine Br.and_ ?_
    | with_reducible refine Br.sure rfl ?_
    | with_reducible refine Br.nay rfl ?_
    | with_reducible refine Br.eqb (fun h => ?_) (fun h => ?_)
    | with_reducible refine Br.bool (fun h => ?_) (fun h => ?_)
    | fail
  any_goals (refine ⟨?_, st.kp⟩; rw [decide_eq_false (fun he => h (by rw [he]))])
  have h0 : c.epoch = d.epoch := by assumption
  have h0' : c.drain = d.drain := by assumption
  have hlen : c.mem.length = d.mem.length := by omega
  refine ⟨fun m v w' => ∃ j : Nat, v = [.bool false, .int .i64 (j : Int)] ∧ m = c.mem.length - j ∧ j ≤ c.mem.length ∧ c.mem.take j = d.mem.take j ∧ St No w0 w' [.blk b 32 [.int .i64 d.epoch, .slice p' d.mem.length k', .int .i64 d.drain], .blk bb 32 [.int .i64 c.epoch, .slice p c.mem.length k, .int .i64 c.drain]], ⟨_, 0, rfl, rfl, by omega, rfl, st⟩, ?_⟩
  clear st
  rintro _ _ _ w ⟨j, hv, rfl, hj, he, st⟩
  obtain ⟨rfl, rfl⟩ : _ ∧ _ := by simpa using hv
  clear hv
  repeat' first
    | (with_reducible refine St.alloc st ?_; (try clear st); intro b w st)
    | with_reducible refine sz_and (by (repeat rw [ByteArray.size_append]); omega) ?_
    | (with_reducible apply ex0c; case h => first | exact St.cell st 0 rfl rfl | exact St.cell st 1 rfl rfl | exact St.cell st 2 rfl rfl | exact St.cell st 3 rfl rfl | fail)
    | (with_reducible apply ex1c; case h => first | exact St.cell st 0 rfl rfl | exact St.cell st 1 rfl rfl | exact St.cell st 2 rfl rfl | exact St.cell st 3 rfl rfl | fail)
    | (with_reducible apply ex3c; case h => first | exact St.cell st 0 rfl rfl | exact St.cell st 1 rfl rfl | exact St.cell st 2 rfl rfl | exact St.cell st 3 rfl rfl | fail)
    | (with_reducible apply ex0r; case h => first | exact St.rows st 0 rfl | exact St.rows st 1 rfl | exact St.rows st 2 rfl | exact St.rows st 3 rfl | fail)
    | (with_reducible apply exr2; case h => first | exact St.rows st 0 rfl | exact St.rows st 1 rfl | exact St.rows st 2 rfl | exact St.rows st 3 rfl | fail)
    | (with_reducible apply exr3; case h => first | exact St.rows st 0 rfl | exact St.rows st 1 rfl | exact St.rows st 2 rfl | exact St.rows st 3 rfl | fail)
    | (with_reducible apply exr4; case h => first | exact St.rows st 0 rfl | exact St.rows st 1 rfl | exact St.rows st 2 rfl | exact St.rows st 3 rfl | fail)
    | (with_reducible apply exr5; case h => first | exact St.rows st 0 rfl | exact St.rows st 1 rfl | exact St.rows st 2 rfl | exact St.rows st 3 rfl | fail)
    | (with_reducible apply exr6; case h => first | exact St.rows st 0 rfl | exact St.rows st 1 rfl | exact St.rows st 2 rfl | exact St.rows st 3 rfl | fail)
    | (with_reducible apply exWr; case h => first | exact St.wr st 0 rfl rfl | exact St.wr st 1 rfl rfl | exact St.wr st 2 rfl rfl | exact St.wr st 3 rfl rfl | fail)
    | (with_reducible apply exWrRow; case h => first | exact St.wrRow st 0 rfl rfl rfl | exact St.wrRow st 1 rfl rfl rfl | exact St.wrRow st 2 rfl rfl rfl | exact St.wrRow st 3 rfl rfl rfl | fail)
    | (with_reducible refine LetW.cell ?_; (first | refine St.store st 0 rfl ?_ | refine St.store st 1 rfl ?_ | refine St.store st 2 rfl ?_ | refine St.store st 3 rfl ?_ | fail); (try clear st); intro w st; simp only [List.set] at st)
    | (with_reducible refine LetW.rows ?_; (first | refine St.storeRow st 0 rfl ?_ | refine St.storeRow st 1 rfl ?_ | refine St.storeRow st 2 rfl ?_ | refine St.storeRow st 3 rfl ?_ | fail); (try clear st); intro w st; simp only [List.set, setsL] at st)
    | ((with_reducible apply exr4); case h => first | exact St.rowAt st 0 rfl rfl | exact St.rowAt st 1 rfl rfl | exact St.rowAt st 2 rfl rfl | exact St.rowAt st 3 rfl rfl | fail)
    | ((with_reducible apply exr5); case h => first | exact St.rowAt st 0 rfl rfl | exact St.rowAt st 1 rfl rfl | exact St.rowAt st 2 rfl rfl | exact St.rowAt st 3 rfl rfl | fail)
    | ((with_reducible apply exr6); case h => first | exact St.rowAt st 0 rfl rfl | exact St.rowAt st 1 rfl rfl | exact St.rowAt st 2 rfl rfl | exact St.rowAt st 3 rfl rfl | fail)
    | with_reducible refine LetI.id (by omega) (by omega) ?_
    | fail
  refine Br.dec (fun h1 => ?_) (fun h1 => ?_)
  · have hjl : j < c.mem.length := by omega
    have hjl' : j < d.mem.length := by omega
    obtain ⟨x, hx, hr⟩ := ha j hjl
    obtain ⟨x', hx', hr'⟩ := hb j hjl'
    repeat' first
      | (with_reducible refine St.alloc st ?_; (try clear st); intro b w st)
      | with_reducible refine sz_and (by (repeat rw [ByteArray.size_append]); omega) ?_
      | (with_reducible apply ex0c; case h => first | exact St.cell st 0 rfl rfl | exact St.cell st 1 rfl rfl | exact St.cell st 2 rfl rfl | exact St.cell st 3 rfl rfl | fail)
      | (with_reducible apply ex1c; case h => first | exact St.cell st 0 rfl rfl | exact St.cell st 1 rfl rfl | exact St.cell st 2 rfl rfl | exact St.cell st 3 rfl rfl | fail)
      | (with_reducible apply ex3c; case h => first | exact St.cell st 0 rfl rfl | exact St.cell st 1 rfl rfl | exact St.cell st 2 rfl rfl | exact St.cell st 3 rfl rfl | fail)
      | (with_reducible apply ex0r; case h => first | exact St.rows st 0 rfl | exact St.rows st 1 rfl | exact St.rows st 2 rfl | exact St.rows st 3 rfl | fail)
      | (with_reducible apply exr2; case h => first | exact St.rows st 0 rfl | exact St.rows st 1 rfl | exact St.rows st 2 rfl | exact St.rows st 3 rfl | fail)
      | (with_reducible apply exr3; case h => first | exact St.rows st 0 rfl | exact St.rows st 1 rfl | exact St.rows st 2 rfl | exact St.rows st 3 rfl | fail)
      | (with_reducible apply exr4; case h => first | exact St.rows st 0 rfl | exact St.rows st 1 rfl | exact St.rows st 2 rfl | exact St.rows st 3 rfl | fail)
      | (with_reducible apply exr5; case h => first | exact St.rows st 0 rfl | exact St.rows st 1 rfl | exact St.rows st 2 rfl | exact St.rows st 3 rfl | fail)
      | (with_reducible apply exr6; case h => first | exact St.rows st 0 rfl | exact St.rows st 1 rfl | exact St.rows st 2 rfl | exact St.rows st 3 rfl | fail)
      | (with_reducible apply exWr; case h => first | exact St.wr st 0 rfl rfl | exact St.wr st 1 rfl rfl | exact St.wr st 2 rfl rfl | exact St.wr st 3 rfl rfl | fail)
      | (with_reducible apply exWrRow; case h => first | exact St.wrRow st 0 rfl rfl rfl | exact St.wrRow st 1 rfl rfl rfl | exact St.wrRow st 2 rfl rfl rfl | exact St.wrRow st 3 rfl rfl rfl | fail)
      | (with_reducible refine LetW.cell ?_; (first | refine St.store st 0 rfl ?_ | refine St.store st 1 rfl ?_ | refine St.store st 2 rfl ?_ | refine St.store st 3 rfl ?_ | fail); (try clear st); intro w st; simp only [List.set] at st)
      | (with_reducible refine LetW.rows ?_; (first | refine St.storeRow st 0 rfl ?_ | refine St.storeRow st 1 rfl ?_ | refine St.storeRow st 2 rfl ?_ | refine St.storeRow st 3 rfl ?_ | fail); (try clear st); intro w st; simp only [List.set, setsL] at st)
      | ((with_reducible apply exr4); case h => first | exact St.rowAt st 0 rfl rfl | exact St.rowAt st 1 rfl rfl | exact St.rowAt st 2 rfl rfl | exact St.rowAt st 3 rfl rfl | fail)
      | ((with_reducible apply exr5); case h => first | exact St.rowAt st 0 rfl rfl | exact St.rowAt st 1 rfl rfl | exact St.rowAt st 2 rfl rfl | exact St.rowAt st 3 rfl rfl | fail)
      | ((with_reducible apply exr6); case h => first | exact St.rowAt st 0 rfl rfl | exact St.rowAt st 1 rfl rfl | exact St.rowAt st 2 rfl rfl | exact St.rowAt st 3 rfl rfl | fail)
      | with_reducible refine LetI.id (by omega) (by omega) ?_
      | fail
    refine NilOk.intro hx ⟨⟨by omega, by omega⟩, _, _, Row.kp st.kp (not_no _) hr, ?_⟩
    repeat' first
      | (with_reducible refine St.alloc st ?_; (try clear st); intro b w st)
      | with_reducible refine sz_and (by (repeat rw [ByteArray.size_append]); omega) ?_
      | (with_reducible apply ex0c; case h => first | exact St.cell st 0 rfl rfl | exact St.cell st 1 rfl rfl | exact St.cell st 2 rfl rfl | exact St.cell st 3 rfl rfl | fail)
      | (with_reducible apply ex1c; case h => first | exact St.cell st 0 rfl rfl | exact St.cell st 1 rfl rfl | exact St.cell st 2 rfl rfl | exact St.cell st 3 rfl rfl | fail)
      | (with_reducible apply ex3c; case h => first | exact St.cell st 0 rfl rfl | exact St.cell st 1 rfl rfl | exact St.cell st 2 rfl rfl | exact St.cell st 3 rfl rfl | fail)
      | (with_reducible apply ex0r; case h => first | exact St.rows st 0 rfl | exact St.rows st 1 rfl | exact St.rows st 2 rfl | exact St.rows st 3 rfl | fail)
      | (with_reducible apply exr2; case h => first | exact St.rows st 0 rfl | exact St.rows st 1 rfl | exact St.rows st 2 rfl | exact St.rows st 3 rfl | fail)
      | (with_reducible apply exr3; case h => first | exact St.rows st 0 rfl | exact St.rows st 1 rfl | exact St.rows st 2 rfl | exact St.rows st 3 rfl | fail)
      | (with_reducible apply exr4; case h => first | exact St.rows st 0 rfl | exact St.rows st 1 rfl | exact St.rows st 2 rfl | exact St.rows st 3 rfl | fail)
      | (with_reducible apply exr5; case h => first | exact St.rows st 0 rfl | exact St.rows st 1 rfl | exact St.rows st 2 rfl | exact St.rows st 3 rfl | fail)
      | (with_reducible apply exr6; case h => first | exact St.rows st 0 rfl | exact St.rows st 1 rfl | exact St.rows st 2 rfl | exact St.rows st 3 rfl | fail)
      | (with_reducible apply exWr; case h => first | exact St.wr st 0 rfl rfl | exact St.wr st 1 rfl rfl | exact St.wr st 2 rfl rfl | exact St.wr st 3 rfl rfl | fail)
      | (with_reducible apply exWrRow; case h => first | exact St.wrRow st 0 rfl rfl rfl | exact St.wrRow st 1 rfl rfl rfl | exact St.wrRow st 2 rfl rfl rfl | exact St.wrRow st 3 rfl rfl rfl | fail)
      | (with_reducible refine LetW.cell ?_; (first | refine St.store st 0 rfl ?_ | refine St.store st 1 rfl ?_ | refine St.store st 2 rfl ?_ | refine St.store st 3 rfl ?_ | fail); (try clear st); intro w st; simp only [List.set] at st)
      | (with_reducible refine LetW.rows ?_; (first | refine St.storeRow st 0 rfl ?_ | refine St.storeRow st 1 rfl ?_ | refine St.storeRow st 2 rfl ?_ | refine St.storeRow st 3 rfl ?_ | fail); (try clear st); intro w st; simp only [List.set, setsL] at st)
      | ((with_reducible apply exr4); case h => first | exact St.rowAt st 0 rfl rfl | exact St.rowAt st 1 rfl rfl | exact St.rowAt st 2 rfl rfl | exact St.rowAt st 3 rfl rfl | fail)
      | ((with_reducible apply exr5); case h => first | exact St.rowAt st 0 rfl rfl | exact St.rowAt st 1 rfl rfl | exact St.rowAt st 2 rfl rfl | exact St.rowAt st 3 rfl rfl | fail)
      | ((with_reducible apply exr6); case h => first | exact St.rowAt st 0 rfl rfl | exact St.rowAt st 1 rfl rfl | exact St.rowAt st 2 rfl rfl | exact St.rowAt st 3 rfl rfl | fail)
      | with_reducible refine LetI.id (by omega) (by omega) ?_
      | fail
    refine NilOk.intro hx' ⟨⟨by omega, by omega⟩, _, _, Row.kp st.kp (not_no _) hr', ?_⟩
    have hne : c.mem[j] ≠ d.mem[j] → c ≠ d := fun hne hab => hne (by subst hab; rfl)
    repeat' first
      | (with_reducible refine St.alloc st ?_; (try clear st); intro b w st)
      | with_reducible refine sz_and (by (repeat rw [ByteArray.size_append]); omega) ?_
      | (with_reducible apply ex0c; case h => first | exact St.cell st 0 rfl rfl | exact St.cell st 1 rfl rfl | exact St.cell st 2 rfl rfl | exact St.cell st 3 rfl rfl | fail)
      | (with_reducible apply ex1c; case h => first | exact St.cell st 0 rfl rfl | exact St.cell st 1 rfl rfl | exact St.cell st 2 rfl rfl | exact St.cell st 3 rfl rfl | fail)
      | (with_reducible apply ex3c; case h => first | exact St.cell st 0 rfl rfl | exact St.cell st 1 rfl rfl | exact St.cell st 2 rfl rfl | exact St.cell st 3 rfl rfl | fail)
      | (with_reducible apply ex0r; case h => first | exact St.rows st 0 rfl | exact St.rows st 1 rfl | exact St.rows st 2 rfl | exact St.rows st 3 rfl | fail)
      | (with_reducible apply exr2; case h => first | exact St.rows st 0 rfl | exact St.rows st 1 rfl | exact St.rows st 2 rfl | exact St.rows st 3 rfl | fail)
      | (with_reducible apply exr3; case h => first | exact St.rows st 0 rfl | exact St.rows st 1 rfl | exact St.rows st 2 rfl | exact St.rows st 3 rfl | fail)
      | (with_reducible apply exr4; case h => first | exact St.rows st 0 rfl | exact St.rows st 1 rfl | exact St.rows st 2 rfl | exact St.rows st 3 rfl | fail)
      | (with_reducible apply exr5; case h => first | exact St.rows st 0 rfl | exact St.rows st 1 rfl | exact St.rows st 2 rfl | exact St.rows st 3 rfl | fail)
      | (with_reducible apply exr6; case h => first | exact St.rows st 0 rfl | exact St.rows st 1 rfl | exact St.rows st 2 rfl | exact St.rows st 3 rfl | fail)
      | (with_reducible apply exWr; case h => first | exact St.wr st 0 rfl rfl | exact St.wr st 1 rfl rfl | exact St.wr st 2 rfl rfl | exact St.wr st 3 rfl rfl | fail)
      | (with_reducible apply exWrRow; case h => first | exact St.wrRow st 0 rfl rfl rfl | exact St.wrRow st 1 rfl rfl rfl | exact St.wrRow st 2 rfl rfl rfl | exact St.wrRow st 3 rfl rfl rfl | fail)
      | (with_reducible refine LetW.cell ?_; (first | refine St.store st 0 rfl ?_ | refine St.store st 1 rfl ?_ | refine St.store st 2 rfl ?_ | refine St.store st 3 rfl ?_ | fail); (try clear st); intro w st; simp only [List.set] at st)
      | (with_reducible refine LetW.rows ?_; (first | refine St.storeRow st 0 rfl ?_ | refine St.storeRow st 1 rfl ?_ | refine St.storeRow st 2 rfl ?_ | refine St.storeRow st 3 rfl ?_ | fail); (try clear st); intro w st; simp only [List.set, setsL] at st)
      | ((with_reducible apply exr4); case h => first | exact St.rowAt st 0 rfl rfl | exact St.rowAt st 1 rfl rfl | exact St.rowAt st 2 rfl rfl | exact St.rowAt st 3 rfl rfl | fail)
      | ((with_reducible apply exr5); case h => first | exact St.rowAt st 0 rfl rfl | exact St.rowAt st 1 rfl rfl | exact St.rowAt st 2 rfl rfl | exact St.rowAt st 3 rfl rfl | fail)
      | ((with_reducible apply exr6); case h => first | exact St.rowAt st 0 rfl rfl | exact St.rowAt st 1 rfl rfl | exact St.rowAt st 2 rfl rfl | exact St.rowAt st 3 rfl rfl | fail)
      | with_reducible refine LetI.id (by omega) (by omega) ?_
      | with_reducible refine Br.dec (fun h => ?_) (fun h => ?_)
      | with_reducible refine Br.eqi (fun h => ?_) (fun h => ?_)
      | with_reducible refine Br.nei (fun h => ?_) (fun h => ?_)
      | with_reducible refine Br.eqs' (fun h => ?_) (fun h => ?_)
      | with_reducible refine Br.eqs (fun h => ?_) (fun h => ?_)
      | with_reducible refine Br.not ?_
      | with_reducible refine Br.and_ ?_
      | with_reducible refine Br.sure rfl ?_
      | with_reducible refine Br.nay rfl ?_
      | with_reducible refine Br.eqb (fun h => ?_) (fun h => ?_)
      | with_reducible refine Br.bool (fun h => ?_) (fun h => ?_)
      | fail
    · exact ⟨_, by omega, j + 1, by simp, rfl, by omega, by
        rw [List.take_succ_eq_append_getElem hjl, List.take_succ_eq_append_getElem hjl', he, Prod.ext ‹c.mem[j].1 = d.mem[j].1› h], st⟩
    · exact ⟨by rw [decide_eq_false (hne fun hab => h (by rw [hab]))], st.kp⟩
    · exact ⟨by rw [decide_eq_false (hne fun hab => h (by rw [hab]))], st.kp⟩
  · refine ⟨?_, st.kp⟩
    obtain rfl : j = c.mem.length := by omega
    rw [List.take_length, hlen, List.take_length] at he
    obtain ⟨e1, m1, d1⟩ := c
    obtain ⟨e2, m2, d2⟩ := d
    simp only at h0 h0' he
    rw [decide_eq_true (by rw [h0, h0', he])]
theorem firsts_set {j : Nat} (hj : j < 6) : ((List.range 6).map fun (i : Nat) => decide (i < j)).set j true = (List.range 6).map fun (i : Nat) => decide (i < j + 1) := by
  match j, hj with
  | 0, _ => rfl
  | 1, _ => rfl
  | 2, _ => rfl
  | 3, _ => rfl
  | 4, _ => rfl
  | 5, _ => rfl
set_option maxHeartbeats 1000000 in
theorem mnew_ca {w0 : World} {c : Cfg} {p : Option Addr} {n k : Nat} (hM : IntAt w0 p c.quanta) (hn : n = c.quanta.length) (hk : n ≤ k) (hk' : k ≤ maxLen) (hc : okS c) :
    Ca Try.prog 26 #[cfV c p n k] w0 fun e w' => ∃ (g : Nat) (p' : Option Addr) (k' : Nat), e = .returned (.tuple #[.pointer (some ⟨g, 0, none⟩), .int .i64 0]) ∧ St No w0 w' [mB g c p n k (Mst.new c) p' k', mR (Mst.new c).ch.mem p' k'] := by
  have st : St No w0 w0 [] := St.start w0
  obtain ⟨hf1, hf2⟩ := hc.few
  obtain ⟨hn1, hn2⟩ := hc.nodes
  obtain ⟨hc1, hc2⟩ := hc.chain
  refine mnew_ok _ _ _ _ _ _ _ _ _ _ _ _ _ _ _ _ ?_
  unfold mnew
  refine St.alloc st ?_; clear st; intro bc w st
  refine ⟨_, _, _, _, _, _, _, _, _, _, _, _, _, _, st.rowAt 0 rfl rfl, ?_⟩
  refine (sfirst_ca (c := c) (hM.no st.kp) hn (by omega) hk hk').mono ?_
  have hch : chkS c = 0 := chkS_ok.2 hc
  rw [hch, firstC_yes hch]
  rintro _ w1 ⟨_, rfl, pf, kf, rfl, ho, hk1⟩
  replace st := st.pushRow0 hk1 ho (Nat.le_refl _)
  clear ho hk1
  refine ⟨_, _, _, _, _, _, rfl, ?_⟩
  repeat' first
    | (with_reducible refine St.alloc st ?_; (try clear st); intro b w st)
    | with_reducible refine sz_and (by (repeat rw [ByteArray.size_append]); omega) ?_
    | (with_reducible apply ex0c; case h => first | exact St.cell st 0 rfl rfl | exact St.cell st 1 rfl rfl | exact St.cell st 2 rfl rfl | exact St.cell st 3 rfl rfl | fail)
    | (with_reducible apply ex1c; case h => first | exact St.cell st 0 rfl rfl | exact St.cell st 1 rfl rfl | exact St.cell st 2 rfl rfl | exact St.cell st 3 rfl rfl | fail)
    | (with_reducible apply ex3c; case h => first | exact St.cell st 0 rfl rfl | exact St.cell st 1 rfl rfl | exact St.cell st 2 rfl rfl | exact St.cell st 3 rfl rfl | fail)
    | (with_reducible apply ex0r; case h => first | exact St.rows st 0 rfl | exact St.rows st 1 rfl | exact St.rows st 2 rfl | exact St.rows st 3 rfl | fail)
    | (with_reducible apply exr2; case h => first | exact St.rows st 0 rfl | exact St.rows st 1 rfl | exact St.rows st 2 rfl | exact St.rows st 3 rfl | fail)
    | (with_reducible apply exr3; case h => first | exact St.rows st 0 rfl | exact St.rows st 1 rfl | exact St.rows st 2 rfl | exact St.rows st 3 rfl | fail)
    | (with_reducible apply exr4; case h => first | exact St.rows st 0 rfl | exact St.rows st 1 rfl | exact St.rows st 2 rfl | exact St.rows st 3 rfl | fail)
    | (with_reducible apply exr5; case h => first | exact St.rows st 0 rfl | exact St.rows st 1 rfl | exact St.rows st 2 rfl | exact St.rows st 3 rfl | fail)
    | (with_reducible apply exr6; case h => first | exact St.rows st 0 rfl | exact St.rows st 1 rfl | exact St.rows st 2 rfl | exact St.rows st 3 rfl | fail)
    | (with_reducible apply exWr; case h => first | exact St.wr st 0 rfl rfl | exact St.wr st 1 rfl rfl | exact St.wr st 2 rfl rfl | exact St.wr st 3 rfl rfl | fail)
    | (with_reducible apply exWrRow; case h => first | exact St.wrRow st 0 rfl rfl rfl | exact St.wrRow st 1 rfl rfl rfl | exact St.wrRow st 2 rfl rfl rfl | exact St.wrRow st 3 rfl rfl rfl | fail)
    | (with_reducible refine LetW.cell ?_; (first | refine St.store st 0 rfl ?_ | refine St.store st 1 rfl ?_ | refine St.store st 2 rfl ?_ | refine St.store st 3 rfl ?_ | fail); (try clear st); intro w st; simp only [List.set] at st)
    | (with_reducible refine LetW.rows ?_; (first | refine St.storeRow st 0 rfl ?_ | refine St.storeRow st 1 rfl ?_ | refine St.storeRow st 2 rfl ?_ | refine St.storeRow st 3 rfl ?_ | fail); (try clear st); intro w st; simp only [List.set, setsL] at st)
    | ((with_reducible apply exr4); case h => first | exact St.rowAt st 0 rfl rfl | exact St.rowAt st 1 rfl rfl | exact St.rowAt st 2 rfl rfl | exact St.rowAt st 3 rfl rfl | fail)
    | ((with_reducible apply exr5); case h => first | exact St.rowAt st 0 rfl rfl | exact St.rowAt st 1 rfl rfl | exact St.rowAt st 2 rfl rfl | exact St.rowAt st 3 rfl rfl | fail)
    | ((with_reducible apply exr6); case h => first | exact St.rowAt st 0 rfl rfl | exact St.rowAt st 1 rfl rfl | exact St.rowAt st 2 rfl rfl | exact St.rowAt st 3 rfl rfl | fail)
    | with_reducible refine LetI.id (by omega) (by omega) ?_
    | fail
  refine Br.nay rfl ?_
  refine ⟨_, _, _, _, _, _, _, _, _, _, _, _, _, _, st.rowAt 2 rfl rfl, ?_⟩
  refine ⟨_, _, _, _, _, st.rowAt 0 rfl rfl, ?_⟩
  refine St.alloc st ?_; clear st; intro g w st
  refine ⟨_, _, _, st.cell 1 rfl rfl, ?_⟩
  have hlen : (firstS c).mem.length = c.chain.toNat := rowS_len _
  refine ⟨fun q v w' => ∃ (j : Nat), v = [.int .i64 (j : Int)] ∧ q = c.chain.toNat - j ∧ j ≤ c.chain.toNat ∧ St No w0 w' [mB g c p n k ⟨c.nodes, c.patience, firstS c, List.replicate 6 0, (List.range 6).map fun (i : Nat) => decide (i < j)⟩ pf kf, mR (firstS c).mem pf kf], ⟨_, 0, rfl, rfl, by omega, st.pick [0, 2] rfl (by decide)⟩, ?_⟩
  clear st
  rintro _ _ w ⟨j, hv, rfl, hj, st⟩
  obtain rfl : _ = _ := by simpa using hv
  clear hv
  refine Br.dec (fun h1 => ?_) (fun h1 => ?_)
  · have hjl : j < (firstS c).mem.length := by omega
    have hx : (firstS c).mem[j] = ((j : Int), 1) := rowS_at (by omega)
    obtain ⟨a, ha, hr⟩ := (ElAt.of_owns memE_len (st.hold 1 _ rfl) rfl : MemAt w pf (firstS c).mem) j hjl
    rw [hx] at hr
    refine NilOk.intro ha ⟨⟨by omega, by omega⟩, _, _, hr, ?_⟩
    clear ha hr
    refine St.alloc st ?_; clear st; intro bx w st
    repeat' first
      | (with_reducible refine St.alloc st ?_; (try clear st); intro b w st)
      | with_reducible refine sz_and (by (repeat rw [ByteArray.size_append]); omega) ?_
      | (with_reducible apply ex0c; case h => first | exact St.cell st 0 rfl rfl | exact St.cell st 1 rfl rfl | exact St.cell st 2 rfl rfl | exact St.cell st 3 rfl rfl | exact St.cell st 4 rfl rfl | fail)
      | (with_reducible apply ex1c; case h => first | exact St.cell st 0 rfl rfl | exact St.cell st 1 rfl rfl | exact St.cell st 2 rfl rfl | exact St.cell st 3 rfl rfl | exact St.cell st 4 rfl rfl | fail)
      | (with_reducible apply ex3c; case h => first | exact St.cell st 0 rfl rfl | exact St.cell st 1 rfl rfl | exact St.cell st 2 rfl rfl | exact St.cell st 3 rfl rfl | exact St.cell st 4 rfl rfl | fail)
      | (with_reducible apply ex0r; case h => first | exact St.rows st 0 rfl | exact St.rows st 1 rfl | exact St.rows st 2 rfl | exact St.rows st 3 rfl | exact St.rows st 4 rfl | fail)
      | (with_reducible apply exr2; case h => first | exact St.rows st 0 rfl | exact St.rows st 1 rfl | exact St.rows st 2 rfl | exact St.rows st 3 rfl | exact St.rows st 4 rfl | fail)
      | (with_reducible apply exr3; case h => first | exact St.rows st 0 rfl | exact St.rows st 1 rfl | exact St.rows st 2 rfl | exact St.rows st 3 rfl | exact St.rows st 4 rfl | fail)
      | (with_reducible apply exr4; case h => first | exact St.rows st 0 rfl | exact St.rows st 1 rfl | exact St.rows st 2 rfl | exact St.rows st 3 rfl | exact St.rows st 4 rfl | fail)
      | (with_reducible apply exr5; case h => first | exact St.rows st 0 rfl | exact St.rows st 1 rfl | exact St.rows st 2 rfl | exact St.rows st 3 rfl | exact St.rows st 4 rfl | fail)
      | (with_reducible apply exr6; case h => first | exact St.rows st 0 rfl | exact St.rows st 1 rfl | exact St.rows st 2 rfl | exact St.rows st 3 rfl | exact St.rows st 4 rfl | fail)
      | (with_reducible apply exWr; case h => first | exact St.wr st 0 rfl rfl | exact St.wr st 1 rfl rfl | exact St.wr st 2 rfl rfl | exact St.wr st 3 rfl rfl | exact St.wr st 4 rfl rfl | fail)
      | (with_reducible apply exWrRow; case h => first | exact St.wrRow st 0 rfl rfl rfl | exact St.wrRow st 1 rfl rfl rfl | exact St.wrRow st 2 rfl rfl rfl | exact St.wrRow st 3 rfl rfl rfl | exact St.wrRow st 4 rfl rfl rfl | fail)
      | (with_reducible refine LetW.cell ?_; (first | refine St.store st 0 rfl ?_ | refine St.store st 1 rfl ?_ | refine St.store st 2 rfl ?_ | refine St.store st 3 rfl ?_ | refine St.store st 4 rfl ?_ | fail); (try clear st); intro w st; simp only [List.set] at st)
      | (with_reducible refine LetW.rows ?_; (first | refine St.storeRow st 0 rfl ?_ | refine St.storeRow st 1 rfl ?_ | refine St.storeRow st 2 rfl ?_ | refine St.storeRow st 3 rfl ?_ | refine St.storeRow st 4 rfl ?_ | fail); (try clear st); intro w st; simp only [List.set, setsL] at st)
      | ((with_reducible apply exr4); case h => first | exact St.rowAt st 0 rfl rfl | exact St.rowAt st 1 rfl rfl | exact St.rowAt st 2 rfl rfl | exact St.rowAt st 3 rfl rfl | exact St.rowAt st 4 rfl rfl | fail)
      | ((with_reducible apply exr5); case h => first | exact St.rowAt st 0 rfl rfl | exact St.rowAt st 1 rfl rfl | exact St.rowAt st 2 rfl rfl | exact St.rowAt st 3 rfl rfl | exact St.rowAt st 4 rfl rfl | fail)
      | ((with_reducible apply exr6); case h => first | exact St.rowAt st 0 rfl rfl | exact St.rowAt st 1 rfl rfl | exact St.rowAt st 2 rfl rfl | exact St.rowAt st 3 rfl rfl | exact St.rowAt st 4 rfl rfl | fail)
      | with_reducible refine LetI.id (by omega) (by omega) ?_
      | fail
    refine ⟨⟨by omega, by omega⟩, ?_⟩
    rw [addAt]
    refine ⟨st.wr 1 (i := 21 + (j : Int).toNat) rfl (wholeAt rfl (by simp) (by omega)), ?_⟩
    refine St.store st 1 rfl ?_
    clear st
    intro w st
    have e2 := wholeSet (c := c) (cp := p) (cn := n) (ck := k) (m := ⟨c.nodes, c.patience, firstS c, List.replicate 6 0, (List.range 6).map fun (i : Nat) => decide (i < j)⟩) (p := pf) (k := kf) rfl (by simp) (i := (j : Int).toNat) (by omega) true
    replace st : St _ w0 w [_, .blk _ _ ((mCells c p n k ⟨c.nodes, c.patience, firstS c, List.replicate 6 0, (List.range 6).map fun (i : Nat) => decide (i < j)⟩ pf kf).set (21 + (j : Int).toNat) (.bool true)), _] := st
    rw [e2] at st
    dsimp only at st
    rw [Int.toNat_natCast, firsts_set (by omega)] at st
    exact LetI.id (by omega) (by omega) ⟨_, by omega, j + 1, by simp, rfl, by omega, st.tail⟩
  · refine ⟨g, pf, kf, rfl, ?_⟩
    have e : Mst.new c = ⟨c.nodes, c.patience, firstS c, List.replicate 6 0, (List.range 6).map fun (i : Nat) => decide (i < j)⟩ := by
      unfold Mst.new
      congr 1
      refine List.map_congr_left fun i _ => ?_
      exact decide_eq_decide.2 (by omega)
    rw [e]
    exact st
end Go.Proofs.Ytljipmhkpnigkaa
