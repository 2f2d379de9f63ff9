/- Package master: the contracts of what it sends. -/
import Derived.Test.YtljipmhkpnigkaaMB
namespace Go.Proofs.Ytljipmhkpnigkaa
open Go.Vc Go.Codec

/-- somebody is sent a frame of a kind: an epoch, a chain, an index -/
abbrev sendL (to kd ep ce : Int) (p : Option Addr) (n k : Nat) (cd ix : Int) : List Value :=
  [.int .i64 to, .int .i64 kd, .int .i64 ep, .int .i64 0, .int .i64 0, .int .i64 0, .int .i64 0, .int .i64 0, .int .i64 0, .string (mk []), .string (mk []), .int .i64 0, .int .i64 0, .string (mk []), .int .i64 0, .int .i64 0, .int .i64 0, .int .i64 0, .int .i64 0, .int .i64 0, .int .i64 0, .string (mk []), .string (mk []), .int .i64 0, .int .i64 ce, .slice p n k, .int .i64 cd, .int .i64 ix, .int .i64 0, .int .i64 0]
section
variable {w0 : World} {b : Nat} {c : Cfg} {cp : Option Addr} {cn ck : Nat} {m : Mst} {p : Option Addr} {k : Nat}
theorem mconfig_tk (h : okM m) (to : Int) : Tk Try.prog 57 #[.pointer (some ⟨b, 0, none⟩), .int .i64 to] [mB b c cp cn ck m p k, mR m.ch.mem p k] fun e L' => ∃ p' k', e = .returned (.agg (sendL to 8 0 m.ch.epoch p' m.ch.mem.length k' m.ch.drain 0).toArray) ∧ L' = [mR m.ch.mem p' k', mB b c cp cn ck m p k, mR m.ch.mem p k] := by
  intro w0 st
  have hl := h.ok.l2
  refine mconfig_ok _ _ _ _ ?_
  unfold mconfig
  refine St.alloc st ?_; clear st; intro bx w st
  repeat' first
    | (with_reducible refine St.alloc st ?_; (try clear st); intro b w st)
    | with_reducible refine sz_and (by (repeat rw [ByteArray.size_append]); omega) ?_
    | (with_reducible apply ex0c; case h => first | exact St.cell st 0 rfl rfl | exact St.cell st 1 rfl rfl | exact St.cell st 2 rfl rfl | exact St.cell st 3 rfl rfl | fail)
    | (with_reducible apply ex1c; case h => first | exact St.cell st 0 rfl rfl | exact St.cell st 1 rfl rfl | exact St.cell st 2 rfl rfl | exact St.cell st 3 rfl rfl | fail)
    | (with_reducible apply ex3c; case h => first | exact St.cell st 0 rfl rfl | exact St.cell st 1 rfl rfl | exact St.cell st 2 rfl rfl | exact St.cell st 3 rfl rfl | fail)
    | (with_reducible apply ex0r; case h => first | exact St.rows st 0 rfl | exact St.rows st 1 rfl | exact St.rows st 2 rfl | exact St.rows st 3 rfl | fail)
    | (with_reducible apply exr2; case h => first | exact St.rows st 0 rfl | exact St.rows st 1 rfl | exact St.rows st 2 rfl | exact St.rows st 3 rfl | fail)
    | (with_reducible apply exr3; case h => first | exact St.rows st 0 rfl | exact St.rows st 1 rfl | exact St.rows st 2 rfl | exact St.rows st 3 rfl | fail)
    | (with_reducible apply exr4; case h => first | exact St.rows st 0 rfl | exact St.rows st 1 rfl | exact St.rows st 2 rfl | exact St.rows st 3 rfl | fail)
    | (with_reducible apply exr5; case h => first | exact St.rows st 0 rfl | exact St.rows st 1 rfl | exact St.rows st 2 rfl | exact St.rows st 3 rfl | fail)
    | (with_reducible apply exr6; case h => first | exact St.rows st 0 rfl | exact St.rows st 1 rfl | exact St.rows st 2 rfl | exact St.rows st 3 rfl | fail)
    | (with_reducible apply exWr; case h => first | exact St.wr st 0 rfl rfl | exact St.wr st 1 rfl rfl | exact St.wr st 2 rfl rfl | exact St.wr st 3 rfl rfl | fail)
    | (with_reducible apply exWrRow; case h => first | exact St.wrRow st 0 rfl rfl rfl | exact St.wrRow st 1 rfl rfl rfl | exact St.wrRow st 2 rfl rfl rfl | exact St.wrRow st 3 rfl rfl rfl | fail)
    | (with_reducible refine LetW.cell ?_; (first | refine St.store st 0 rfl ?_ | refine St.store st 1 rfl ?_ | refine St.store st 2 rfl ?_ | refine St.store st 3 rfl ?_ | fail); (try clear st); intro w st; simp only [List.set] at st)
    | (with_reducible refine LetW.rows ?_; (first | refine St.storeRow st 0 rfl ?_ | refine St.storeRow st 1 rfl ?_ | refine St.storeRow st 2 rfl ?_ | refine St.storeRow st 3 rfl ?_ | fail); (try clear st); intro w st; simp only [List.set, setsL] at st)
    | ((with_reducible apply exr4); case h => first | exact St.rowAt st 0 rfl rfl | exact St.rowAt st 1 rfl rfl | exact St.rowAt st 2 rfl rfl | exact St.rowAt st 3 rfl rfl | fail)
    | ((with_reducible apply exr5); case h => first | exact St.rowAt st 0 rfl rfl | exact St.rowAt st 1 rfl rfl | exact St.rowAt st 2 rfl rfl | exact St.rowAt st 3 rfl rfl | fail)
    | ((with_reducible apply exr6); case h => first | exact St.rowAt st 0 rfl rfl | exact St.rowAt st 1 rfl rfl | exact St.rowAt st 2 rfl rfl | exact St.rowAt st 3 rfl rfl | fail)
    | with_reducible refine LetI.id (by omega) (by omega) ?_
    | fail
  refine (mown_ca (c := m.ch) (ElAt.of_owns memE_len (st.hold 2 _ rfl) rfl) rfl (by omega)).mono ?_
  rintro _ w1 ⟨p', k', rfl, st1⟩
  replace st := st.made st1
  clear st1
  simp only [List.cons_append, List.nil_append] at st
  refine ⟨_, _, _, _, _, rfl, ?_⟩
  repeat' first
    | (with_reducible refine St.alloc st ?_; (try clear st); intro b w st)
    | with_reducible refine sz_and (by (repeat rw [ByteArray.size_append]); omega) ?_
    | (with_reducible apply ex0c; case h => first | exact St.cell st 0 rfl rfl | exact St.cell st 1 rfl rfl | exact St.cell st 2 rfl rfl | exact St.cell st 3 rfl rfl | fail)
    | (with_reducible apply ex1c; case h => first | exact St.cell st 0 rfl rfl | exact St.cell st 1 rfl rfl | exact St.cell st 2 rfl rfl | exact St.cell st 3 rfl rfl | fail)
    | (with_reducible apply ex3c; case h => first | exact St.cell st 0 rfl rfl | exact St.cell st 1 rfl rfl | exact St.cell st 2 rfl rfl | exact St.cell st 3 rfl rfl | fail)
    | (with_reducible apply ex0r; case h => first | exact St.rows st 0 rfl | exact St.rows st 1 rfl | exact St.rows st 2 rfl | exact St.rows st 3 rfl | fail)
    | (with_reducible apply exr2; case h => first | exact St.rows st 0 rfl | exact St.rows st 1 rfl | exact St.rows st 2 rfl | exact St.rows st 3 rfl | fail)
    | (with_reducible apply exr3; case h => first | exact St.rows st 0 rfl | exact St.rows st 1 rfl | exact St.rows st 2 rfl | exact St.rows st 3 rfl | fail)
    | (with_reducible apply exr4; case h => first | exact St.rows st 0 rfl | exact St.rows st 1 rfl | exact St.rows st 2 rfl | exact St.rows st 3 rfl | fail)
    | (with_reducible apply exr5; case h => first | exact St.rows st 0 rfl | exact St.rows st 1 rfl | exact St.rows st 2 rfl | exact St.rows st 3 rfl | fail)
    | (with_reducible apply exr6; case h => first | exact St.rows st 0 rfl | exact St.rows st 1 rfl | exact St.rows st 2 rfl | exact St.rows st 3 rfl | fail)
    | (with_reducible apply exWr; case h => first | exact St.wr st 0 rfl rfl | exact St.wr st 1 rfl rfl | exact St.wr st 2 rfl rfl | exact St.wr st 3 rfl rfl | fail)
    | (with_reducible apply exWrRow; case h => first | exact St.wrRow st 0 rfl rfl rfl | exact St.wrRow st 1 rfl rfl rfl | exact St.wrRow st 2 rfl rfl rfl | exact St.wrRow st 3 rfl rfl rfl | fail)
    | (with_reducible refine LetW.cell ?_; (first | refine St.store st 0 rfl ?_ | refine St.store st 1 rfl ?_ | refine St.store st 2 rfl ?_ | refine St.store st 3 rfl ?_ | fail); (try clear st); intro w st; simp only [List.set] at st)
    | (with_reducible refine LetW.rows ?_; (first | refine St.storeRow st 0 rfl ?_ | refine St.storeRow st 1 rfl ?_ | refine St.storeRow st 2 rfl ?_ | refine St.storeRow st 3 rfl ?_ | fail); (try clear st); intro w st; simp only [List.set, setsL] at st)
    | ((with_reducible apply exr4); case h => first | exact St.rowAt st 0 rfl rfl | exact St.rowAt st 1 rfl rfl | exact St.rowAt st 2 rfl rfl | exact St.rowAt st 3 rfl rfl | fail)
    | ((with_reducible apply exr5); case h => first | exact St.rowAt st 0 rfl rfl | exact St.rowAt st 1 rfl rfl | exact St.rowAt st 2 rfl rfl | exact St.rowAt st 3 rfl rfl | fail)
    | ((with_reducible apply exr6); case h => first | exact St.rowAt st 0 rfl rfl | exact St.rowAt st 1 rfl rfl | exact St.rowAt st 2 rfl rfl | exact St.rowAt st 3 rfl rfl | fail)
    | with_reducible refine LetI.id (by omega) (by omega) ?_
    | fail
  exact ⟨_, _, _, _, _, _, _, _, _, _, _, _, _, _, _, _, _, _, _, _, _, _, _, _, _, _, _, _, _, _, _, _, st.rowAt 1 rfl rfl, _, ⟨_, _, rfl, rfl⟩, st.pick [0, 2, 3] rfl (by decide)⟩
theorem infoSend : (Try.prog.info? 70).map (fun i => (i.zero, i.size, i.bytes)) = some (some (.agg (sendL 0 0 0 0 none 0 0 0 0).toArray), 30, 296) := by kernel_rfl
/-- sends of the chain: to whom, and where it lies there -/
structure Told where
  to : Int
  p : Option Addr
  k : Nat
abbrev toldE (ch : Chn) (x : Told) : List Value := sendL x.to 8 0 ch.epoch x.p ch.mem.length x.k ch.drain 0
theorem toldE_len (ch : Chn) (x : Told) : (toldE ch x).length = 30 := rfl
theorem toldE_plain (ch : Chn) (x : Told) : ∀ u ∈ toldE ch x, notAgg u = true := by simp [toldE, sendL, notAgg]
abbrev toldA (ch : Chn) (l : List Told) (p : Option Addr) (k : Nat) : Atom := .row 0 70 30 (.slice p l.length k) l.length (cellsOf (toldE ch) l)
theorem mall_tk (h : okM m) : Tk Try.prog 63 #[.pointer (some ⟨b, 0, none⟩)] [mB b c cp cn ck m p k, mR m.ch.mem p k] fun e L' => ∃ (l : List Told) (p' : Option Addr) (k' : Nat), e = .returned (.slice p' l.length k') ∧ (l.map (·.to)) = (List.range m.nodes.toNat).map (fun (i : Nat) => (i : Int)) ∧ L' = [toldA m.ch l p' k', mB b c cp cn ck m p k, mR m.ch.mem p k] := by
  intro w0 st
  have hn1 := h.n1; have hn2 := h.n2
  obtain ⟨i0, hi0, hz0, hs0, hb0⟩ := info_at infoSend
  refine mall_ok _ _ _ ?_
  unfold mall
  refine ⟨_, st.cell 0 rfl rfl, ?_⟩
  refine ⟨fun q v w' => ∃ (j : Nat) (l : List Told) (p' : Option Addr) (k' : Nat), v = [.slice p' l.length k', .int .i64 (j : Int)] ∧ q = m.nodes.toNat - j ∧ j ≤ m.nodes.toNat ∧ l.map (·.to) = (List.range j).map (fun (i : Nat) => (i : Int)) ∧ St (feet [mB b c cp cn ck m p k, mR m.ch.mem p k]) w0 w' [mB b c cp cn ck m p k, mR m.ch.mem p k, toldA m.ch l p' k'], ⟨_, 0, [], none, 0, rfl, rfl, by omega, rfl, (st.nil0 70 30).pick [1, 2, 0] rfl (by decide)⟩, ?_⟩
  clear st
  rintro pv _ kv _ _ w ⟨j, l, p1, k1, hv, rfl, hj, hl, st⟩
  obtain ⟨⟨rfl, rfl, rfl⟩, rfl⟩ : _ ∧ _ := by simpa using hv
  clear hv
  have hlj : l.length = j := by simpa using congrArg List.length hl
  refine Br.dec (fun h1 => ?_) (fun h1 => ?_)
  · refine Tk.go (L1 := [mB b c cp cn ck m p k, mR m.ch.mem p k]) (L2 := [toldA m.ch l pv kv]) (mconfig_tk h _) st ?_
    clear st
    rintro _ _ w ⟨p2, k2, rfl, rfl⟩ st
    simp only [List.cons_append, List.nil_append] at st
    refine ⟨_, _, _, _, _, _, _, _, _, _, _, _, _, _, _, _, _, _, _, _, _, _, _, _, _, _, _, _, _, _, _, _, rfl, ?_⟩
    refine St.alloc st ?_; clear st; intro bx w st
    refine St.append10 st 4 0 Try.underlying56 hi0 hz0 hs0 hb0 rfl (by decide) (toldE_len m.ch) (toldE_plain m.ch) (n := l.length) (x := (⟨j, p2, k2⟩ : Told)) rfl rfl (by simp [maxLen]; omega) (by omega) ?_
    clear st
    intro p' c' w st
    simp only [List.set] at st
    refine ⟨_, _, _, rfl, LetI.id (by omega) (by omega) ⟨_, by omega, j + 1, l ++ [⟨j, p2, k2⟩], p', c', by simp, rfl, by omega, by simp [hl, List.range_succ], ?_⟩⟩
    show St _ w0 w [_, _, .row 0 _ 30 (.slice p' (l ++ [(⟨j, p2, k2⟩ : Told)]).length c') (l ++ [(⟨j, p2, k2⟩ : Told)]).length _]
    rw [show (l ++ [(⟨j, p2, k2⟩ : Told)]).length = l.length + 1 by simp]
    exact st.pick [2, 3, 4] rfl (by decide)
  · refine ⟨_, ⟨l, _, _, rfl, ?_, rfl⟩, st.pick [2, 0, 1] rfl (by decide)⟩
    rw [hl, show j = m.nodes.toNat by omega]
theorem mout_tk (h : okM m) {n : Int} (hn : 0 ≤ n ∧ n < 6) : Tk Try.prog 62 #[.pointer (some ⟨b, 0, none⟩), .int .i64 n] [mB b c cp cn ck m p k, mR m.ch.mem p k] fun e L' => ∃ p' k', e = .returned (.bool (m.out n).2) ∧ L' = [mB b c cp cn ck (m.out n).1 p' k', mR (m.out n).1.ch.mem p' k'] := by
  intro w0 st
  have hl := h.ok.l2
  refine mout_ok _ _ _ _ ?_
  unfold mout
  repeat' first
    | (with_reducible refine St.alloc st ?_; (try clear st); intro b w st)
    | with_reducible refine sz_and (by (repeat rw [ByteArray.size_append]); omega) ?_
    | (with_reducible apply ex0c; case h => first | exact St.cell st 0 rfl rfl | exact St.cell st 1 rfl rfl | exact St.cell st 2 rfl rfl | exact St.cell st 3 rfl rfl | fail)
    | (with_reducible apply ex1c; case h => first | exact St.cell st 0 rfl rfl | exact St.cell st 1 rfl rfl | exact St.cell st 2 rfl rfl | exact St.cell st 3 rfl rfl | fail)
    | (with_reducible apply ex3c; case h => first | exact St.cell st 0 rfl rfl | exact St.cell st 1 rfl rfl | exact St.cell st 2 rfl rfl | exact St.cell st 3 rfl rfl | fail)
    | (with_reducible apply ex0r; case h => first | exact St.rows st 0 rfl | exact St.rows st 1 rfl | exact St.rows st 2 rfl | exact St.rows st 3 rfl | fail)
    | (with_reducible apply exr2; case h => first | exact St.rows st 0 rfl | exact St.rows st 1 rfl | exact St.rows st 2 rfl | exact St.rows st 3 rfl | fail)
    | (with_reducible apply exr3; case h => first | exact St.rows st 0 rfl | exact St.rows st 1 rfl | exact St.rows st 2 rfl | exact St.rows st 3 rfl | fail)
    | (with_reducible apply exr4; case h => first | exact St.rows st 0 rfl | exact St.rows st 1 rfl | exact St.rows st 2 rfl | exact St.rows st 3 rfl | fail)
    | (with_reducible apply exr5; case h => first | exact St.rows st 0 rfl | exact St.rows st 1 rfl | exact St.rows st 2 rfl | exact St.rows st 3 rfl | fail)
    | (with_reducible apply exr6; case h => first | exact St.rows st 0 rfl | exact St.rows st 1 rfl | exact St.rows st 2 rfl | exact St.rows st 3 rfl | fail)
    | (with_reducible apply exWr; case h => first | exact St.wr st 0 rfl rfl | exact St.wr st 1 rfl rfl | exact St.wr st 2 rfl rfl | exact St.wr st 3 rfl rfl | fail)
    | (with_reducible apply exWrRow; case h => first | exact St.wrRow st 0 rfl rfl rfl | exact St.wrRow st 1 rfl rfl rfl | exact St.wrRow st 2 rfl rfl rfl | exact St.wrRow st 3 rfl rfl rfl | fail)
    | (with_reducible refine LetW.cell ?_; (first | refine St.store st 0 rfl ?_ | refine St.store st 1 rfl ?_ | refine St.store st 2 rfl ?_ | refine St.store st 3 rfl ?_ | fail); (try clear st); intro w st; simp only [List.set] at st)
    | (with_reducible refine LetW.rows ?_; (first | refine St.storeRow st 0 rfl ?_ | refine St.storeRow st 1 rfl ?_ | refine St.storeRow st 2 rfl ?_ | refine St.storeRow st 3 rfl ?_ | fail); (try clear st); intro w st; simp only [List.set, setsL] at st)
    | ((with_reducible apply exr4); case h => first | exact St.rowAt st 0 rfl rfl | exact St.rowAt st 1 rfl rfl | exact St.rowAt st 2 rfl rfl | exact St.rowAt st 3 rfl rfl | fail)
    | ((with_reducible apply exr5); case h => first | exact St.rowAt st 0 rfl rfl | exact St.rowAt st 1 rfl rfl | exact St.rowAt st 2 rfl rfl | exact St.rowAt st 3 rfl rfl | fail)
    | ((with_reducible apply exr6); case h => first | exact St.rowAt st 0 rfl rfl | exact St.rowAt st 1 rfl rfl | exact St.rowAt st 2 rfl rfl | exact St.rowAt st 3 rfl rfl | fail)
    | with_reducible refine LetI.id (by omega) (by omega) ?_
    | fail
  refine (cwithout_ca (c := m.ch) (ElAt.of_owns memE_len (st.hold 1 _ rfl) rfl) rfl (by omega) n).mono ?_
  rintro _ w1 ⟨_, rfl, p', k', rfl, ho, hk⟩
  replace st := st.pushRow0 hk ho (Nat.le_refl _)
  clear ho hk
  refine ⟨_, _, _, _, _, _, rfl, ?_⟩
  repeat' first
    | (with_reducible refine St.alloc st ?_; (try clear st); intro b w st)
    | with_reducible refine sz_and (by (repeat rw [ByteArray.size_append]); omega) ?_
    | (with_reducible apply ex0c; case h => first | exact St.cell st 0 rfl rfl | exact St.cell st 1 rfl rfl | exact St.cell st 2 rfl rfl | exact St.cell st 3 rfl rfl | fail)
    | (with_reducible apply ex1c; case h => first | exact St.cell st 0 rfl rfl | exact St.cell st 1 rfl rfl | exact St.cell st 2 rfl rfl | exact St.cell st 3 rfl rfl | fail)
    | (with_reducible apply ex3c; case h => first | exact St.cell st 0 rfl rfl | exact St.cell st 1 rfl rfl | exact St.cell st 2 rfl rfl | exact St.cell st 3 rfl rfl | fail)
    | (with_reducible apply ex0r; case h => first | exact St.rows st 0 rfl | exact St.rows st 1 rfl | exact St.rows st 2 rfl | exact St.rows st 3 rfl | fail)
    | (with_reducible apply exr2; case h => first | exact St.rows st 0 rfl | exact St.rows st 1 rfl | exact St.rows st 2 rfl | exact St.rows st 3 rfl | fail)
    | (with_reducible apply exr3; case h => first | exact St.rows st 0 rfl | exact St.rows st 1 rfl | exact St.rows st 2 rfl | exact St.rows st 3 rfl | fail)
    | (with_reducible apply exr4; case h => first | exact St.rows st 0 rfl | exact St.rows st 1 rfl | exact St.rows st 2 rfl | exact St.rows st 3 rfl | fail)
    | (with_reducible apply exr5; case h => first | exact St.rows st 0 rfl | exact St.rows st 1 rfl | exact St.rows st 2 rfl | exact St.rows st 3 rfl | fail)
    | (with_reducible apply exr6; case h => first | exact St.rows st 0 rfl | exact St.rows st 1 rfl | exact St.rows st 2 rfl | exact St.rows st 3 rfl | fail)
    | (with_reducible apply exWr; case h => first | exact St.wr st 0 rfl rfl | exact St.wr st 1 rfl rfl | exact St.wr st 2 rfl rfl | exact St.wr st 3 rfl rfl | fail)
    | (with_reducible apply exWrRow; case h => first | exact St.wrRow st 0 rfl rfl rfl | exact St.wrRow st 1 rfl rfl rfl | exact St.wrRow st 2 rfl rfl rfl | exact St.wrRow st 3 rfl rfl rfl | fail)
    | (with_reducible refine LetW.cell ?_; (first | refine St.store st 0 rfl ?_ | refine St.store st 1 rfl ?_ | refine St.store st 2 rfl ?_ | refine St.store st 3 rfl ?_ | fail); (try clear st); intro w st; simp only [List.set] at st)
    | (with_reducible refine LetW.rows ?_; (first | refine St.storeRow st 0 rfl ?_ | refine St.storeRow st 1 rfl ?_ | refine St.storeRow st 2 rfl ?_ | refine St.storeRow st 3 rfl ?_ | fail); (try clear st); intro w st; simp only [List.set, setsL] at st)
    | ((with_reducible apply exr4); case h => first | exact St.rowAt st 0 rfl rfl | exact St.rowAt st 1 rfl rfl | exact St.rowAt st 2 rfl rfl | exact St.rowAt st 3 rfl rfl | fail)
    | ((with_reducible apply exr5); case h => first | exact St.rowAt st 0 rfl rfl | exact St.rowAt st 1 rfl rfl | exact St.rowAt st 2 rfl rfl | exact St.rowAt st 3 rfl rfl | fail)
    | ((with_reducible apply exr6); case h => first | exact St.rowAt st 0 rfl rfl | exact St.rowAt st 1 rfl rfl | exact St.rowAt st 2 rfl rfl | exact St.rowAt st 3 rfl rfl | fail)
    | with_reducible refine LetI.id (by omega) (by omega) ?_
    | fail
  refine Br.nei (fun h1 => ?_) (fun h1 => ?_)
  · have e : m.out n = (m, false) := by unfold Mst.out; rw [if_pos h1]
    rw [e]
    exact ⟨_, ⟨_, _, rfl, rfl⟩, st.pick [2, 3] rfl (by decide)⟩
  · have e : m.out n = (⟨m.nodes, m.patience, (withoutC m.ch n).1, m.heard, m.whole.set n.toNat false⟩, true) := by unfold Mst.out; rw [if_neg (by omega)]
    rw [e]
    repeat' first
      | (with_reducible refine St.alloc st ?_; (try clear st); intro b w st)
      | with_reducible refine sz_and (by (repeat rw [ByteArray.size_append]); omega) ?_
      | (with_reducible apply ex0c; case h => first | exact St.cell st 0 rfl rfl | exact St.cell st 1 rfl rfl | exact St.cell st 2 rfl rfl | exact St.cell st 3 rfl rfl | fail)
      | (with_reducible apply ex1c; case h => first | exact St.cell st 0 rfl rfl | exact St.cell st 1 rfl rfl | exact St.cell st 2 rfl rfl | exact St.cell st 3 rfl rfl | fail)
      | (with_reducible apply ex3c; case h => first | exact St.cell st 0 rfl rfl | exact St.cell st 1 rfl rfl | exact St.cell st 2 rfl rfl | exact St.cell st 3 rfl rfl | fail)
      | (with_reducible apply ex0r; case h => first | exact St.rows st 0 rfl | exact St.rows st 1 rfl | exact St.rows st 2 rfl | exact St.rows st 3 rfl | fail)
      | (with_reducible apply exr2; case h => first | exact St.rows st 0 rfl | exact St.rows st 1 rfl | exact St.rows st 2 rfl | exact St.rows st 3 rfl | fail)
      | (with_reducible apply exr3; case h => first | exact St.rows st 0 rfl | exact St.rows st 1 rfl | exact St.rows st 2 rfl | exact St.rows st 3 rfl | fail)
      | (with_reducible apply exr4; case h => first | exact St.rows st 0 rfl | exact St.rows st 1 rfl | exact St.rows st 2 rfl | exact St.rows st 3 rfl | fail)
      | (with_reducible apply exr5; case h => first | exact St.rows st 0 rfl | exact St.rows st 1 rfl | exact St.rows st 2 rfl | exact St.rows st 3 rfl | fail)
      | (with_reducible apply exr6; case h => first | exact St.rows st 0 rfl | exact St.rows st 1 rfl | exact St.rows st 2 rfl | exact St.rows st 3 rfl | fail)
      | (with_reducible apply exWr; case h => first | exact St.wr st 0 rfl rfl | exact St.wr st 1 rfl rfl | exact St.wr st 2 rfl rfl | exact St.wr st 3 rfl rfl | fail)
      | (with_reducible apply exWrRow; case h => first | exact St.wrRow st 0 rfl rfl rfl | exact St.wrRow st 1 rfl rfl rfl | exact St.wrRow st 2 rfl rfl rfl | exact St.wrRow st 3 rfl rfl rfl | fail)
      | (with_reducible refine LetW.cell ?_; (first | refine St.store st 0 rfl ?_ | refine St.store st 1 rfl ?_ | refine St.store st 2 rfl ?_ | refine St.store st 3 rfl ?_ | fail); (try clear st); intro w st; simp only [List.set] at st)
      | (with_reducible refine LetW.rows ?_; (first | refine St.storeRow st 0 rfl ?_ | refine St.storeRow st 1 rfl ?_ | refine St.storeRow st 2 rfl ?_ | refine St.storeRow st 3 rfl ?_ | fail); (try clear st); intro w st; simp only [List.set, setsL] at st)
      | ((with_reducible apply exr4); case h => first | exact St.rowAt st 0 rfl rfl | exact St.rowAt st 1 rfl rfl | exact St.rowAt st 2 rfl rfl | exact St.rowAt st 3 rfl rfl | fail)
      | ((with_reducible apply exr5); case h => first | exact St.rowAt st 0 rfl rfl | exact St.rowAt st 1 rfl rfl | exact St.rowAt st 2 rfl rfl | exact St.rowAt st 3 rfl rfl | fail)
      | ((with_reducible apply exr6); case h => first | exact St.rowAt st 0 rfl rfl | exact St.rowAt st 1 rfl rfl | exact St.rowAt st 2 rfl rfl | exact St.rowAt st 3 rfl rfl | fail)
      | with_reducible refine LetI.id (by omega) (by omega) ?_
      | fail
    refine ⟨⟨by omega, by omega⟩, ?_⟩
    rw [addAt]
    refine ⟨st.wr 2 (i := 21 + n.toNat) rfl (wholeAt (m := ⟨m.nodes, m.patience, (withoutC m.ch n).1, m.heard, m.whole⟩) (p := p') (k := k') h.hl h.wl (by omega)), ?_⟩
    refine St.store st 2 rfl ?_
    clear st
    intro w st
    simp only [List.set] at st
    have e2 := wholeSet (c := c) (cp := cp) (cn := cn) (ck := ck) (m := ⟨m.nodes, m.patience, (withoutC m.ch n).1, m.heard, m.whole⟩) (p := p') (k := k') h.hl h.wl (i := n.toNat) (by omega) false
    refine ⟨_, ⟨p', k', rfl, rfl⟩, ?_⟩
    show St _ w0 w [.blk _ _ (mCells c cp cn ck ⟨m.nodes, m.patience, (withoutC m.ch n).1, m.heard, m.whole.set n.toNat false⟩ p' k'), _]
    rw [← e2]
    exact st.pick [2, 1] rfl (by decide)
theorem mchain_tk (h : okM m) : Tk Try.prog 28 #[.pointer (some ⟨b, 0, none⟩)] [mB b c cp cn ck m p k, mR m.ch.mem p k] fun e L' => ∃ p' k', e = .returned (chV m.ch.epoch p' m.ch.mem.length k' m.ch.drain) ∧ L' = [mR m.ch.mem p' k', mB b c cp cn ck m p k, mR m.ch.mem p k] := by
  intro w0 st
  have hl := h.ok.l2
  refine mchain_ok _ _ _ ?_
  unfold mchain
  refine St.alloc st ?_; clear st; intro bx w st
  refine Pw.go (mnone_pw (st.hold 1 _ rfl) h) st ?_; clear st; intro w st
  refine ⟨_, rfl, Br.nay rfl ?_⟩
  repeat' first
    | (with_reducible refine St.alloc st ?_; (try clear st); intro b w st)
    | with_reducible refine sz_and (by (repeat rw [ByteArray.size_append]); omega) ?_
    | (with_reducible apply ex0c; case h => first | exact St.cell st 0 rfl rfl | exact St.cell st 1 rfl rfl | exact St.cell st 2 rfl rfl | exact St.cell st 3 rfl rfl | fail)
    | (with_reducible apply ex1c; case h => first | exact St.cell st 0 rfl rfl | exact St.cell st 1 rfl rfl | exact St.cell st 2 rfl rfl | exact St.cell st 3 rfl rfl | fail)
    | (with_reducible apply ex3c; case h => first | exact St.cell st 0 rfl rfl | exact St.cell st 1 rfl rfl | exact St.cell st 2 rfl rfl | exact St.cell st 3 rfl rfl | fail)
    | (with_reducible apply ex0r; case h => first | exact St.rows st 0 rfl | exact St.rows st 1 rfl | exact St.rows st 2 rfl | exact St.rows st 3 rfl | fail)
    | (with_reducible apply exr2; case h => first | exact St.rows st 0 rfl | exact St.rows st 1 rfl | exact St.rows st 2 rfl | exact St.rows st 3 rfl | fail)
    | (with_reducible apply exr3; case h => first | exact St.rows st 0 rfl | exact St.rows st 1 rfl | exact St.rows st 2 rfl | exact St.rows st 3 rfl | fail)
    | (with_reducible apply exr4; case h => first | exact St.rows st 0 rfl | exact St.rows st 1 rfl | exact St.rows st 2 rfl | exact St.rows st 3 rfl | fail)
    | (with_reducible apply exr5; case h => first | exact St.rows st 0 rfl | exact St.rows st 1 rfl | exact St.rows st 2 rfl | exact St.rows st 3 rfl | fail)
    | (with_reducible apply exr6; case h => first | exact St.rows st 0 rfl | exact St.rows st 1 rfl | exact St.rows st 2 rfl | exact St.rows st 3 rfl | fail)
    | (with_reducible apply exWr; case h => first | exact St.wr st 0 rfl rfl | exact St.wr st 1 rfl rfl | exact St.wr st 2 rfl rfl | exact St.wr st 3 rfl rfl | fail)
    | (with_reducible apply exWrRow; case h => first | exact St.wrRow st 0 rfl rfl rfl | exact St.wrRow st 1 rfl rfl rfl | exact St.wrRow st 2 rfl rfl rfl | exact St.wrRow st 3 rfl rfl rfl | fail)
    | (with_reducible refine LetW.cell ?_; (first | refine St.store st 0 rfl ?_ | refine St.store st 1 rfl ?_ | refine St.store st 2 rfl ?_ | refine St.store st 3 rfl ?_ | fail); (try clear st); intro w st; simp only [List.set] at st)
    | (with_reducible refine LetW.rows ?_; (first | refine St.storeRow st 0 rfl ?_ | refine St.storeRow st 1 rfl ?_ | refine St.storeRow st 2 rfl ?_ | refine St.storeRow st 3 rfl ?_ | fail); (try clear st); intro w st; simp only [List.set, setsL] at st)
    | ((with_reducible apply exr4); case h => first | exact St.rowAt st 0 rfl rfl | exact St.rowAt st 1 rfl rfl | exact St.rowAt st 2 rfl rfl | exact St.rowAt st 3 rfl rfl | fail)
    | ((with_reducible apply exr5); case h => first | exact St.rowAt st 0 rfl rfl | exact St.rowAt st 1 rfl rfl | exact St.rowAt st 2 rfl rfl | exact St.rowAt st 3 rfl rfl | fail)
    | ((with_reducible apply exr6); case h => first | exact St.rowAt st 0 rfl rfl | exact St.rowAt st 1 rfl rfl | exact St.rowAt st 2 rfl rfl | exact St.rowAt st 3 rfl rfl | fail)
    | with_reducible refine LetI.id (by omega) (by omega) ?_
    | fail
  refine (mown_ca (c := m.ch) (ElAt.of_owns memE_len (st.hold 2 _ rfl) rfl) rfl (by omega)).mono ?_
  rintro _ w1 ⟨p', k', rfl, st1⟩
  replace st := st.made st1
  clear st1
  simp only [List.cons_append, List.nil_append] at st
  refine ⟨_, _, _, _, _, rfl, ?_⟩
  repeat' first
    | (with_reducible refine St.alloc st ?_; (try clear st); intro b w st)
    | with_reducible refine sz_and (by (repeat rw [ByteArray.size_append]); omega) ?_
    | (with_reducible apply ex0c; case h => first | exact St.cell st 0 rfl rfl | exact St.cell st 1 rfl rfl | exact St.cell st 2 rfl rfl | exact St.cell st 3 rfl rfl | fail)
    | (with_reducible apply ex1c; case h => first | exact St.cell st 0 rfl rfl | exact St.cell st 1 rfl rfl | exact St.cell st 2 rfl rfl | exact St.cell st 3 rfl rfl | fail)
    | (with_reducible apply ex3c; case h => first | exact St.cell st 0 rfl rfl | exact St.cell st 1 rfl rfl | exact St.cell st 2 rfl rfl | exact St.cell st 3 rfl rfl | fail)
    | (with_reducible apply ex0r; case h => first | exact St.rows st 0 rfl | exact St.rows st 1 rfl | exact St.rows st 2 rfl | exact St.rows st 3 rfl | fail)
    | (with_reducible apply exr2; case h => first | exact St.rows st 0 rfl | exact St.rows st 1 rfl | exact St.rows st 2 rfl | exact St.rows st 3 rfl | fail)
    | (with_reducible apply exr3; case h => first | exact St.rows st 0 rfl | exact St.rows st 1 rfl | exact St.rows st 2 rfl | exact St.rows st 3 rfl | fail)
    | (with_reducible apply exr4; case h => first | exact St.rows st 0 rfl | exact St.rows st 1 rfl | exact St.rows st 2 rfl | exact St.rows st 3 rfl | fail)
    | (with_reducible apply exr5; case h => first | exact St.rows st 0 rfl | exact St.rows st 1 rfl | exact St.rows st 2 rfl | exact St.rows st 3 rfl | fail)
    | (with_reducible apply exr6; case h => first | exact St.rows st 0 rfl | exact St.rows st 1 rfl | exact St.rows st 2 rfl | exact St.rows st 3 rfl | fail)
    | (with_reducible apply exWr; case h => first | exact St.wr st 0 rfl rfl | exact St.wr st 1 rfl rfl | exact St.wr st 2 rfl rfl | exact St.wr st 3 rfl rfl | fail)
    | (with_reducible apply exWrRow; case h => first | exact St.wrRow st 0 rfl rfl rfl | exact St.wrRow st 1 rfl rfl rfl | exact St.wrRow st 2 rfl rfl rfl | exact St.wrRow st 3 rfl rfl rfl | fail)
    | (with_reducible refine LetW.cell ?_; (first | refine St.store st 0 rfl ?_ | refine St.store st 1 rfl ?_ | refine St.store st 2 rfl ?_ | refine St.store st 3 rfl ?_ | fail); (try clear st); intro w st; simp only [List.set] at st)
    | (with_reducible refine LetW.rows ?_; (first | refine St.storeRow st 0 rfl ?_ | refine St.storeRow st 1 rfl ?_ | refine St.storeRow st 2 rfl ?_ | refine St.storeRow st 3 rfl ?_ | fail); (try clear st); intro w st; simp only [List.set, setsL] at st)
    | ((with_reducible apply exr4); case h => first | exact St.rowAt st 0 rfl rfl | exact St.rowAt st 1 rfl rfl | exact St.rowAt st 2 rfl rfl | exact St.rowAt st 3 rfl rfl | fail)
    | ((with_reducible apply exr5); case h => first | exact St.rowAt st 0 rfl rfl | exact St.rowAt st 1 rfl rfl | exact St.rowAt st 2 rfl rfl | exact St.rowAt st 3 rfl rfl | fail)
    | ((with_reducible apply exr6); case h => first | exact St.rowAt st 0 rfl rfl | exact St.rowAt st 1 rfl rfl | exact St.rowAt st 2 rfl rfl | exact St.rowAt st 3 rfl rfl | fail)
    | with_reducible refine LetI.id (by omega) (by omega) ?_
    | fail
  exact ⟨_, ⟨_, _, rfl, rfl⟩, st.pick [0, 2, 3] rfl (by decide)⟩
theorem msuspect_tk (h : okM m) (n : Int) : Tk Try.prog 30 #[.pointer (some ⟨b, 0, none⟩), .int .i64 n] [mB b c cp cn ck m p k, mR m.ch.mem p k] fun e L' =>
    (m.leaves n ≠ 0 ∧ e = .returned (.tuple #[.slice none 0 0, .int .i64 (m.leaves n)]) ∧ L' = [mB b c cp cn ck m p k, mR m.ch.mem p k]) ∨
    (m.leaves n = 0 ∧ ∃ (l : List Told) (p' : Option Addr) (k' : Nat) (p2 : Option Addr) (k2 : Nat), e = .returned (.tuple #[.slice p' l.length k', .int .i64 0]) ∧ (l.map (·.to)) = (List.range m.nodes.toNat).map (fun (i : Nat) => (i : Int)) ∧
      L' = [toldA (m.suspect n).1.ch l p' k', mB b c cp cn ck (m.suspect n).1 p2 k2, mR (m.suspect n).1.ch.mem p2 k2]) := by
  intro w0 st
  refine msuspect_ok _ _ _ _ ?_
  unfold msuspect
  refine Pw.go (mleaves_pw (st.hold 0 _ rfl) (ElAt.of_owns memE_len (st.hold 1 _ rfl) rfl) h n) st ?_; clear st; intro w st
  refine ⟨_, rfl, Br.nei (fun h1 => ?_) (fun h1 => ?_)⟩
  · exact ⟨_, .inl ⟨h1, rfl, rfl⟩, st⟩
  · have hh : m.has n = true := by
      unfold Mst.leaves at h1
      split at h1
      · assumption
      · omega
    have e : m.suspect n = ((m.out n).1, 0) := by unfold Mst.suspect; rw [if_neg (by omega)]
    have hok := h.suspect_ok n
    rw [e] at hok ⊢
    refine Tk.go (L1 := [mB b c cp cn ck m p k, mR m.ch.mem p k]) (L2 := []) (mout_tk h (h.hasIn hh)) st ?_
    clear st
    rintro _ _ w ⟨p2, k2, rfl, rfl⟩ st
    have en : (m.out n).1.nodes = m.nodes := by unfold Mst.out; split <;> rfl
    refine ⟨_, rfl, ?_⟩
    refine Tk.go (L2 := []) (mall_tk hok) st ?_
    clear st
    rintro _ _ w ⟨l, p', k', rfl, hl, rfl⟩ st
    rw [en] at hl
    exact ⟨_, _, _, rfl, _, .inr ⟨h1, l, p', k', p2, k2, rfl, hl, rfl⟩, st⟩
theorem mwhole_pw (hB : (mB b c cp cn ck m p k).p w0) (hM : MemAt w0 p m.ch.mem) (h : okM m) (n : Int) : Pw Try.prog 33 #[.pointer (some ⟨b, 0, none⟩), .int .i64 n] (.bool (m.has n && m.wh n)) w0 := by
  have st : St No w0 w0 [] := St.start w0
  refine mwhole_ok _ _ _ _ ?_
  unfold mwhole
  refine Pw.go (mnone_pw hB h) st ?_; clear st; intro w st
  refine ⟨_, rfl, ?_⟩
  refine Br.not (Br.nay rfl ?_)
  refine Pw.go (mmember_pw (Atom.stable _ st.kp (fun _ _ h => h) hB) (hM.no st.kp) h n) st ?_; clear st; intro w st
  refine ⟨_, rfl, ?_⟩
  refine Br.bool (fun h1 => ?_) (fun h1 => ?_)
  · have hn := h.hasIn h1
    refine ⟨⟨by omega, by omega⟩, m.wh n, by rw [addAt]; exact Blk.at_ (Atom.stable _ st.kp (fun _ _ h => h) hB) ((List.getElem?_toArray ..).trans (wholeAt h.hl h.wl (i := n.toNat) (by omega))), ?_⟩
    rw [h1]
    exact ⟨rfl, st.kp⟩
  · rw [h1]; exact ⟨rfl, st.kp⟩
theorem mdrain_tk (h : okM m) (n : Int) : Tk Try.prog 34 #[.pointer (some ⟨b, 0, none⟩), .int .i64 n] [mB b c cp cn ck m p k, mR m.ch.mem p k] fun e L' =>
    ((m.drain n).2 ≠ 0 ∧ e = .returned (.tuple #[.slice none 0 0, .int .i64 (m.drain n).2]) ∧ (m.drain n).1 = m ∧ L' = [mB b c cp cn ck m p k, mR m.ch.mem p k]) ∨
    ((m.drain n).2 = 0 ∧ ∃ (l : List Told) (p' : Option Addr) (k' : Nat) (p2 : Option Addr) (k2 : Nat), e = .returned (.tuple #[.slice p' l.length k', .int .i64 0]) ∧ (l.map (·.to)) = (List.range m.nodes.toNat).map (fun (i : Nat) => (i : Int)) ∧
      L' = [toldA (m.drain n).1.ch l p' k', mB b c cp cn ck (m.drain n).1 p2 k2, mR (m.drain n).1.ch.mem p2 k2]) := by
  intro w0 st
  have hl := h.ok.l2
  have hok := h.drain_ok n
  refine mdrain_ok _ _ _ _ ?_
  unfold mdrain
  refine Pw.go (mleaves_pw (st.hold 0 _ rfl) (ElAt.of_owns memE_len (st.hold 1 _ rfl) rfl) h n) st ?_; clear st; intro w st
  refine ⟨_, rfl, Br.nei (fun h1 => ?_) (fun h1 => ?_)⟩
  · have e : m.drain n = (m, m.leaves n) := by unfold Mst.drain; rw [if_pos h1]
    rw [e]
    exact ⟨_, .inl ⟨h1, rfl, rfl, rfl⟩, st⟩
  · repeat' first
      | (with_reducible refine St.alloc st ?_; (try clear st); intro b w st)
      | with_reducible refine sz_and (by (repeat rw [ByteArray.size_append]); omega) ?_
      | (with_reducible apply ex0c; case h => first | exact St.cell st 0 rfl rfl | exact St.cell st 1 rfl rfl | exact St.cell st 2 rfl rfl | exact St.cell st 3 rfl rfl | fail)
      | (with_reducible apply ex1c; case h => first | exact St.cell st 0 rfl rfl | exact St.cell st 1 rfl rfl | exact St.cell st 2 rfl rfl | exact St.cell st 3 rfl rfl | fail)
      | (with_reducible apply ex3c; case h => first | exact St.cell st 0 rfl rfl | exact St.cell st 1 rfl rfl | exact St.cell st 2 rfl rfl | exact St.cell st 3 rfl rfl | fail)
      | (with_reducible apply ex0r; case h => first | exact St.rows st 0 rfl | exact St.rows st 1 rfl | exact St.rows st 2 rfl | exact St.rows st 3 rfl | fail)
      | (with_reducible apply exr2; case h => first | exact St.rows st 0 rfl | exact St.rows st 1 rfl | exact St.rows st 2 rfl | exact St.rows st 3 rfl | fail)
      | (with_reducible apply exr3; case h => first | exact St.rows st 0 rfl | exact St.rows st 1 rfl | exact St.rows st 2 rfl | exact St.rows st 3 rfl | fail)
      | (with_reducible apply exr4; case h => first | exact St.rows st 0 rfl | exact St.rows st 1 rfl | exact St.rows st 2 rfl | exact St.rows st 3 rfl | fail)
      | (with_reducible apply exr5; case h => first | exact St.rows st 0 rfl | exact St.rows st 1 rfl | exact St.rows st 2 rfl | exact St.rows st 3 rfl | fail)
      | (with_reducible apply exr6; case h => first | exact St.rows st 0 rfl | exact St.rows st 1 rfl | exact St.rows st 2 rfl | exact St.rows st 3 rfl | fail)
      | (with_reducible apply exWr; case h => first | exact St.wr st 0 rfl rfl | exact St.wr st 1 rfl rfl | exact St.wr st 2 rfl rfl | exact St.wr st 3 rfl rfl | fail)
      | (with_reducible apply exWrRow; case h => first | exact St.wrRow st 0 rfl rfl rfl | exact St.wrRow st 1 rfl rfl rfl | exact St.wrRow st 2 rfl rfl rfl | exact St.wrRow st 3 rfl rfl rfl | fail)
      | (with_reducible refine LetW.cell ?_; (first | refine St.store st 0 rfl ?_ | refine St.store st 1 rfl ?_ | refine St.store st 2 rfl ?_ | refine St.store st 3 rfl ?_ | fail); (try clear st); intro w st; simp only [List.set] at st)
      | (with_reducible refine LetW.rows ?_; (first | refine St.storeRow st 0 rfl ?_ | refine St.storeRow st 1 rfl ?_ | refine St.storeRow st 2 rfl ?_ | refine St.storeRow st 3 rfl ?_ | fail); (try clear st); intro w st; simp only [List.set, setsL] at st)
      | ((with_reducible apply exr4); case h => first | exact St.rowAt st 0 rfl rfl | exact St.rowAt st 1 rfl rfl | exact St.rowAt st 2 rfl rfl | exact St.rowAt st 3 rfl rfl | fail)
      | ((with_reducible apply exr5); case h => first | exact St.rowAt st 0 rfl rfl | exact St.rowAt st 1 rfl rfl | exact St.rowAt st 2 rfl rfl | exact St.rowAt st 3 rfl rfl | fail)
      | ((with_reducible apply exr6); case h => first | exact St.rowAt st 0 rfl rfl | exact St.rowAt st 1 rfl rfl | exact St.rowAt st 2 rfl rfl | exact St.rowAt st 3 rfl rfl | fail)
      | with_reducible refine LetI.id (by omega) (by omega) ?_
      | fail
    refine (cdrain_ca (c := m.ch) (ElAt.of_owns memE_len (st.hold 1 _ rfl) rfl) rfl (by omega) n).mono ?_
    rintro _ w1 ⟨_, rfl, p', k', rfl, ho, hk⟩
    replace st := st.pushRow0 hk ho (Nat.le_refl _)
    clear ho hk
    refine ⟨_, _, _, _, _, _, rfl, ?_⟩
    repeat' first
      | (with_reducible refine St.alloc st ?_; (try clear st); intro b w st)
      | with_reducible refine sz_and (by (repeat rw [ByteArray.size_append]); omega) ?_
      | (with_reducible apply ex0c; case h => first | exact St.cell st 0 rfl rfl | exact St.cell st 1 rfl rfl | exact St.cell st 2 rfl rfl | exact St.cell st 3 rfl rfl | fail)
      | (with_reducible apply ex1c; case h => first | exact St.cell st 0 rfl rfl | exact St.cell st 1 rfl rfl | exact St.cell st 2 rfl rfl | exact St.cell st 3 rfl rfl | fail)
      | (with_reducible apply ex3c; case h => first | exact St.cell st 0 rfl rfl | exact St.cell st 1 rfl rfl | exact St.cell st 2 rfl rfl | exact St.cell st 3 rfl rfl | fail)
      | (with_reducible apply ex0r; case h => first | exact St.rows st 0 rfl | exact St.rows st 1 rfl | exact St.rows st 2 rfl | exact St.rows st 3 rfl | fail)
      | (with_reducible apply exr2; case h => first | exact St.rows st 0 rfl | exact St.rows st 1 rfl | exact St.rows st 2 rfl | exact St.rows st 3 rfl | fail)
      | (with_reducible apply exr3; case h => first | exact St.rows st 0 rfl | exact St.rows st 1 rfl | exact St.rows st 2 rfl | exact St.rows st 3 rfl | fail)
      | (with_reducible apply exr4; case h => first | exact St.rows st 0 rfl | exact St.rows st 1 rfl | exact St.rows st 2 rfl | exact St.rows st 3 rfl | fail)
      | (with_reducible apply exr5; case h => first | exact St.rows st 0 rfl | exact St.rows st 1 rfl | exact St.rows st 2 rfl | exact St.rows st 3 rfl | fail)
      | (with_reducible apply exr6; case h => first | exact St.rows st 0 rfl | exact St.rows st 1 rfl | exact St.rows st 2 rfl | exact St.rows st 3 rfl | fail)
      | (with_reducible apply exWr; case h => first | exact St.wr st 0 rfl rfl | exact St.wr st 1 rfl rfl | exact St.wr st 2 rfl rfl | exact St.wr st 3 rfl rfl | fail)
      | (with_reducible apply exWrRow; case h => first | exact St.wrRow st 0 rfl rfl rfl | exact St.wrRow st 1 rfl rfl rfl | exact St.wrRow st 2 rfl rfl rfl | exact St.wrRow st 3 rfl rfl rfl | fail)
      | (with_reducible refine LetW.cell ?_; (first | refine St.store st 0 rfl ?_ | refine St.store st 1 rfl ?_ | refine St.store st 2 rfl ?_ | refine St.store st 3 rfl ?_ | fail); (try clear st); intro w st; simp only [List.set] at st)
      | (with_reducible refine LetW.rows ?_; (first | refine St.storeRow st 0 rfl ?_ | refine St.storeRow st 1 rfl ?_ | refine St.storeRow st 2 rfl ?_ | refine St.storeRow st 3 rfl ?_ | fail); (try clear st); intro w st; simp only [List.set, setsL] at st)
      | ((with_reducible apply exr4); case h => first | exact St.rowAt st 0 rfl rfl | exact St.rowAt st 1 rfl rfl | exact St.rowAt st 2 rfl rfl | exact St.rowAt st 3 rfl rfl | fail)
      | ((with_reducible apply exr5); case h => first | exact St.rowAt st 0 rfl rfl | exact St.rowAt st 1 rfl rfl | exact St.rowAt st 2 rfl rfl | exact St.rowAt st 3 rfl rfl | fail)
      | ((with_reducible apply exr6); case h => first | exact St.rowAt st 0 rfl rfl | exact St.rowAt st 1 rfl rfl | exact St.rowAt st 2 rfl rfl | exact St.rowAt st 3 rfl rfl | fail)
      | with_reducible refine LetI.id (by omega) (by omega) ?_
      | fail
    refine Br.nei (fun h2 => ?_) (fun h2 => ?_)
    · have e : m.drain n = (m, (drainC m.ch n).2) := by unfold Mst.drain; rw [if_neg (by omega), if_pos h2]
      rw [e]
      exact ⟨_, .inl ⟨h2, rfl, rfl, rfl⟩, st.pick [2, 3] rfl (by decide)⟩
    · have e : m.drain n = (⟨m.nodes, m.patience, (drainC m.ch n).1, m.heard, m.whole⟩, 0) := by unfold Mst.drain; rw [if_neg (by omega), if_neg (by omega)]
      rw [e] at hok ⊢
      repeat' first
        | (with_reducible refine St.alloc st ?_; (try clear st); intro b w st)
        | with_reducible refine sz_and (by (repeat rw [ByteArray.size_append]); omega) ?_
        | (with_reducible apply ex0c; case h => first | exact St.cell st 0 rfl rfl | exact St.cell st 1 rfl rfl | exact St.cell st 2 rfl rfl | exact St.cell st 3 rfl rfl | fail)
        | (with_reducible apply ex1c; case h => first | exact St.cell st 0 rfl rfl | exact St.cell st 1 rfl rfl | exact St.cell st 2 rfl rfl | exact St.cell st 3 rfl rfl | fail)
        | (with_reducible apply ex3c; case h => first | exact St.cell st 0 rfl rfl | exact St.cell st 1 rfl rfl | exact St.cell st 2 rfl rfl | exact St.cell st 3 rfl rfl | fail)
        | (with_reducible apply ex0r; case h => first | exact St.rows st 0 rfl | exact St.rows st 1 rfl | exact St.rows st 2 rfl | exact St.rows st 3 rfl | fail)
        | (with_reducible apply exr2; case h => first | exact St.rows st 0 rfl | exact St.rows st 1 rfl | exact St.rows st 2 rfl | exact St.rows st 3 rfl | fail)
        | (with_reducible apply exr3; case h => first | exact St.rows st 0 rfl | exact St.rows st 1 rfl | exact St.rows st 2 rfl | exact St.rows st 3 rfl | fail)
        | (with_reducible apply exr4; case h => first | exact St.rows st 0 rfl | exact St.rows st 1 rfl | exact St.rows st 2 rfl | exact St.rows st 3 rfl | fail)
        | (with_reducible apply exr5; case h => first | exact St.rows st 0 rfl | exact St.rows st 1 rfl | exact St.rows st 2 rfl | exact St.rows st 3 rfl | fail)
        | (with_reducible apply exr6; case h => first | exact St.rows st 0 rfl | exact St.rows st 1 rfl | exact St.rows st 2 rfl | exact St.rows st 3 rfl | fail)
        | (with_reducible apply exWr; case h => first | exact St.wr st 0 rfl rfl | exact St.wr st 1 rfl rfl | exact St.wr st 2 rfl rfl | exact St.wr st 3 rfl rfl | fail)
        | (with_reducible apply exWrRow; case h => first | exact St.wrRow st 0 rfl rfl rfl | exact St.wrRow st 1 rfl rfl rfl | exact St.wrRow st 2 rfl rfl rfl | exact St.wrRow st 3 rfl rfl rfl | fail)
        | (with_reducible refine LetW.cell ?_; (first | refine St.store st 0 rfl ?_ | refine St.store st 1 rfl ?_ | refine St.store st 2 rfl ?_ | refine St.store st 3 rfl ?_ | fail); (try clear st); intro w st; simp only [List.set] at st)
        | (with_reducible refine LetW.rows ?_; (first | refine St.storeRow st 0 rfl ?_ | refine St.storeRow st 1 rfl ?_ | refine St.storeRow st 2 rfl ?_ | refine St.storeRow st 3 rfl ?_ | fail); (try clear st); intro w st; simp only [List.set, setsL] at st)
        | ((with_reducible apply exr4); case h => first | exact St.rowAt st 0 rfl rfl | exact St.rowAt st 1 rfl rfl | exact St.rowAt st 2 rfl rfl | exact St.rowAt st 3 rfl rfl | fail)
        | ((with_reducible apply exr5); case h => first | exact St.rowAt st 0 rfl rfl | exact St.rowAt st 1 rfl rfl | exact St.rowAt st 2 rfl rfl | exact St.rowAt st 3 rfl rfl | fail)
        | ((with_reducible apply exr6); case h => first | exact St.rowAt st 0 rfl rfl | exact St.rowAt st 1 rfl rfl | exact St.rowAt st 2 rfl rfl | exact St.rowAt st 3 rfl rfl | fail)
        | with_reducible refine LetI.id (by omega) (by omega) ?_
        | fail
      replace st : St _ w0 _ [_, _, mB _ c cp cn ck ⟨m.nodes, m.patience, (drainC m.ch n).1, m.heard, m.whole⟩ p' k', _] := st
      refine Tk.go (L1 := [mB _ c cp cn ck ⟨m.nodes, m.patience, (drainC m.ch n).1, m.heard, m.whole⟩ p' k', mR (drainC m.ch n).1.mem p' k']) (L2 := []) (mall_tk hok) (st.pick [2, 1] rfl (by decide)) ?_
      clear st
      rintro _ _ w ⟨l, p2, k2, rfl, hl, rfl⟩ st
      exact ⟨_, _, _, rfl, _, .inr ⟨rfl, l, p2, k2, p', k', rfl, hl, rfl⟩, st⟩
end
end Go.Proofs.Ytljipmhkpnigkaa
