/- Package master: the contracts of what it reads. -/
import Derived.Test.YtljipmhkpnigkaaDM
import Derived.Test.YtljipmhkpnigkaaU3
import Derived.Test.YtljipmhkpnigkaaCM
import Derived.Test.YtljipmhkpnigkaaFR
import Derived.Test.YtljipmhkpnigkaaBY
import Derived.Test.YtljipmhkpnigkaaMP
namespace Go.Proofs.Ytljipmhkpnigkaa
open Go.Vc Go.Codec

abbrev mCells (c : Cfg) (cp : Option Addr) (cn ck : Nat) (m : Mst) (p : Option Addr) (k : Nat) : List Value :=
  [.int .i64 m.nodes, .int .i64 c.chain, .int .i64 c.clients, .slice cp cn ck, .int .i64 c.queue, .int .i64 c.window, .int .i64 c.reads, .int .i64 c.link, .int .i64 m.patience, .int .i64 c.timeout, .int .i64 c.budget, .int .i64 c.refill, .int .i64 m.ch.epoch, .slice p m.ch.mem.length k, .int .i64 m.ch.drain] ++ (m.heard.map (Value.int .i64) ++ m.whole.map Value.bool)
abbrev mB (b : Nat) (c : Cfg) (cp : Option Addr) (cn ck : Nat) (m : Mst) (p : Option Addr) (k : Nat) : Atom := .blk b 106 (mCells c cp cn ck m p k)
abbrev mR (l : List (Int × Int)) (p : Option Addr) (k : Nat) : Atom := .row 0 64 2 (.slice p l.length k) l.length (cellsOf memE l)
section
variable {c : Cfg} {cp : Option Addr} {cn ck : Nat} {m : Mst} {p : Option Addr} {k : Nat}
theorem heardAt (this : m.heard.length = 6) {i : Nat} (hi : i < 6) : (mCells c cp cn ck m p k)[15 + i]? = some (.int .i64 (m.heard.getD i 0)) := by
  rw [List.getElem?_append_right (by show 15 ≤ 15 + i; omega), List.getElem?_append_left (by show 15 + i - 15 < _; simp; omega)]
  show (m.heard.map (Value.int .i64))[15 + i - 15]? = _
  rw [show 15 + i - 15 = i by omega, List.getElem?_map, List.getD_eq_getElem?_getD, List.getElem?_eq_getElem (by omega)]; rfl
theorem wholeAt (h1 : m.heard.length = 6) (h2 : m.whole.length = 6) {i : Nat} (hi : i < 6) : (mCells c cp cn ck m p k)[21 + i]? = some (.bool (m.whole.getD i false)) := by
  rw [List.getElem?_append_right (by show 15 ≤ 21 + i; omega), List.getElem?_append_right (by show _ ≤ 21 + i - 15; simp; omega)]
  show (m.whole.map Value.bool)[21 + i - 15 - (m.heard.map (Value.int .i64)).length]? = _
  rw [List.length_map, h1, show 21 + i - 15 - 6 = i by omega, List.getElem?_map, List.getD_eq_getElem?_getD, List.getElem?_eq_getElem (by omega)]; rfl
theorem heardSet (this : m.heard.length = 6) {i : Nat} (hi : i < 6) (v : Int) : (mCells c cp cn ck m p k).set (15 + i) (.int .i64 v) = mCells c cp cn ck ⟨m.nodes, m.patience, m.ch, m.heard.set i v, m.whole⟩ p k := by
  rw [List.set_append_right _ _ (by show 15 ≤ 15 + i; omega), List.set_append_left _ _ (by show 15 + i - 15 < _; simp; omega)]
  show _ ++ ((m.heard.map (Value.int .i64)).set (15 + i - 15) _ ++ _) = _
  rw [show 15 + i - 15 = i by omega, ← List.map_set]
theorem wholeSet (h1 : m.heard.length = 6) (_h2 : m.whole.length = 6) {i : Nat} (_hi : i < 6) (v : Bool) : (mCells c cp cn ck m p k).set (21 + i) (.bool v) = mCells c cp cn ck ⟨m.nodes, m.patience, m.ch, m.heard, m.whole.set i v⟩ p k := by
  rw [List.set_append_right _ _ (by show 15 ≤ 21 + i; omega), List.set_append_right _ _ (by show _ ≤ 21 + i - 15; simp; omega)]
  show _ ++ (_ ++ (m.whole.map Value.bool).set (21 + i - 15 - (m.heard.map (Value.int .i64)).length) _) = _
  rw [List.length_map, h1, show 21 + i - 15 - 6 = i by omega, ← List.map_set]
end
theorem mnear_pu (n : Int) : Pu Try.prog 59 #[.int .i64 n] (.int .i64 (nearT n)) := by
  intro w
  refine mnear_ok _ _ _ ?_
  unfold mnear
  refine LetI.of (LetI.of ?_)
  exact ⟨rfl, Kp.refl _ _⟩
theorem mown_ca {w0 : World} {n k : Nat} {p : Option Addr} {c : Chn} (hM : MemAt w0 p c.mem) (hn : n = c.mem.length) (hl : c.mem.length ≤ 1000) :
    Ca Try.prog 64 #[chV c.epoch p n k c.drain] w0 fun e w' => ∃ p' k', e = .returned (chV c.epoch p' c.mem.length k' c.drain) ∧ St No w0 w' [mR c.mem p' k'] := by
  subst hn
  have st : St No w0 w0 [] := St.start w0
  obtain ⟨i0, hi0, hz0, hs0, hb0⟩ := info_at infoMem
  refine mown_ok _ _ _ _ _ _ _ ?_
  unfold mown
  repeat' first
    | (with_reducible refine St.alloc st ?_; (try clear st); intro b w st)
    | with_reducible refine sz_and (by (repeat rw [ByteArray.size_append]); omega) ?_
    | (with_reducible apply ex0c; case h => first | exact St.cell st 0 rfl rfl | exact St.cell st 1 rfl rfl | exact St.cell st 2 rfl rfl | exact St.cell st 3 rfl rfl | fail)
    | (with_reducible apply ex1c; case h => first | exact St.cell st 0 rfl rfl | exact St.cell st 1 rfl rfl | exact St.cell st 2 rfl rfl | exact St.cell st 3 rfl rfl | fail)
    | (with_reducible apply ex3c; case h => first | exact St.cell st 0 rfl rfl | exact St.cell st 1 rfl rfl | exact St.cell st 2 rfl rfl | exact St.cell st 3 rfl rfl | fail)
    | (with_reducible apply ex0r; case h => first | exact St.rows st 0 rfl | exact St.rows st 1 rfl | exact St.rows st 2 rfl | exact St.rows st 3 rfl | fail)
    | (with_reducible apply exr2; case h => first | exact St.rows st 0 rfl | exact St.rows st 1 rfl | exact St.rows st 2 rfl | exact St.rows st 3 rfl | fail)
    | (with_reducible apply exr3; case h => first | exact St.rows st 0 rfl | exact St.rows st 1 rfl | exact St.rows st 2 rfl | exact St.rows st 3 rfl | fail)
    | (with_reducible apply exr4; case h => first | exact St.rows st 0 rfl | exact St.rows st 1 rfl | exact St.rows st 2 rfl | exact St.rows st 3 rfl | fail)
    | (with_reducible apply exr5; case h => first | exact St.rows st 0 rfl | exact St.rows st 1 rfl | exact St.rows st 2 rfl | exact St.rows st 3 rfl | fail)
    | (with_reducible apply exr6; case h => first | exact St.rows st 0 rfl | exact St.rows st 1 rfl | exact St.rows st 2 rfl | exact St.rows st 3 rfl | fail)
    | (with_reducible apply exWr; case h => first | exact St.wr st 0 rfl rfl | exact St.wr st 1 rfl rfl | exact St.wr st 2 rfl rfl | exact St.wr st 3 rfl rfl | fail)
    | (with_reducible apply exWrRow; case h => first | exact St.wrRow st 0 rfl rfl rfl | exact St.wrRow st 1 rfl rfl rfl | exact St.wrRow st 2 rfl rfl rfl | exact St.wrRow st 3 rfl rfl rfl | fail)
    | (with_reducible refine LetW.cell ?_; (first | refine St.store st 0 rfl ?_ | refine St.store st 1 rfl ?_ | refine St.store st 2 rfl ?_ | refine St.store st 3 rfl ?_ | fail); (try clear st); intro w st; simp only [List.set] at st)
    | (with_reducible refine LetW.rows ?_; (first | refine St.storeRow st 0 rfl ?_ | refine St.storeRow st 1 rfl ?_ | refine St.storeRow st 2 rfl ?_ | refine St.storeRow st 3 rfl ?_ | fail); (try clear st); intro w st; simp only [List.set, setsL] at st)
    | ((with_reducible apply exr4); case h => first | exact St.rowAt st 0 rfl rfl | exact St.rowAt st 1 rfl rfl | exact St.rowAt st 2 rfl rfl | exact St.rowAt st 3 rfl rfl | fail)
    | ((with_reducible apply exr5); case h => first | exact St.rowAt st 0 rfl rfl | exact St.rowAt st 1 rfl rfl | exact St.rowAt st 2 rfl rfl | exact St.rowAt st 3 rfl rfl | fail)
    | ((with_reducible apply exr6); case h => first | exact St.rowAt st 0 rfl rfl | exact St.rowAt st 1 rfl rfl | exact St.rowAt st 2 rfl rfl | exact St.rowAt st 3 rfl rfl | fail)
    | with_reducible refine LetI.id (by omega) (by omega) ?_
    | fail
  refine St.appendAny0 ((st.nil0 64 2)) 0 (xs := []) (l := c.mem) Try.underlying30 hi0 hz0 hs0 hb0 rfl (by decide) memE_len memE_plain rfl (hM.no st.kp) rfl (by simp [maxLen]; omega) (by omega) ?_
  clear st
  intro p' k' w st
  simp only [List.set, List.nil_append, Nat.zero_add] at st
  refine ⟨_, _, _, rfl, ?_⟩
  repeat' first
    | (with_reducible refine St.alloc st ?_; (try clear st); intro b w st)
    | with_reducible refine sz_and (by (repeat rw [ByteArray.size_append]); omega) ?_
    | (with_reducible apply ex0c; case h => first | exact St.cell st 0 rfl rfl | exact St.cell st 1 rfl rfl | exact St.cell st 2 rfl rfl | exact St.cell st 3 rfl rfl | fail)
    | (with_reducible apply ex1c; case h => first | exact St.cell st 0 rfl rfl | exact St.cell st 1 rfl rfl | exact St.cell st 2 rfl rfl | exact St.cell st 3 rfl rfl | fail)
    | (with_reducible apply ex3c; case h => first | exact St.cell st 0 rfl rfl | exact St.cell st 1 rfl rfl | exact St.cell st 2 rfl rfl | exact St.cell st 3 rfl rfl | fail)
    | (with_reducible apply ex0r; case h => first | exact St.rows st 0 rfl | exact St.rows st 1 rfl | exact St.rows st 2 rfl | exact St.rows st 3 rfl | fail)
    | (with_reducible apply exr2; case h => first | exact St.rows st 0 rfl | exact St.rows st 1 rfl | exact St.rows st 2 rfl | exact St.rows st 3 rfl | fail)
    | (with_reducible apply exr3; case h => first | exact St.rows st 0 rfl | exact St.rows st 1 rfl | exact St.rows st 2 rfl | exact St.rows st 3 rfl | fail)
    | (with_reducible apply exr4; case h => first | exact St.rows st 0 rfl | exact St.rows st 1 rfl | exact St.rows st 2 rfl | exact St.rows st 3 rfl | fail)
    | (with_reducible apply exr5; case h => first | exact St.rows st 0 rfl | exact St.rows st 1 rfl | exact St.rows st 2 rfl | exact St.rows st 3 rfl | fail)
    | (with_reducible apply exr6; case h => first | exact St.rows st 0 rfl | exact St.rows st 1 rfl | exact St.rows st 2 rfl | exact St.rows st 3 rfl | fail)
    | (with_reducible apply exWr; case h => first | exact St.wr st 0 rfl rfl | exact St.wr st 1 rfl rfl | exact St.wr st 2 rfl rfl | exact St.wr st 3 rfl rfl | fail)
    | (with_reducible apply exWrRow; case h => first | exact St.wrRow st 0 rfl rfl rfl | exact St.wrRow st 1 rfl rfl rfl | exact St.wrRow st 2 rfl rfl rfl | exact St.wrRow st 3 rfl rfl rfl | fail)
    | (with_reducible refine LetW.cell ?_; (first | refine St.store st 0 rfl ?_ | refine St.store st 1 rfl ?_ | refine St.store st 2 rfl ?_ | refine St.store st 3 rfl ?_ | fail); (try clear st); intro w st; simp only [List.set] at st)
    | (with_reducible refine LetW.rows ?_; (first | refine St.storeRow st 0 rfl ?_ | refine St.storeRow st 1 rfl ?_ | refine St.storeRow st 2 rfl ?_ | refine St.storeRow st 3 rfl ?_ | fail); (try clear st); intro w st; simp only [List.set, setsL] at st)
    | ((with_reducible apply exr4); case h => first | exact St.rowAt st 0 rfl rfl | exact St.rowAt st 1 rfl rfl | exact St.rowAt st 2 rfl rfl | exact St.rowAt st 3 rfl rfl | fail)
    | ((with_reducible apply exr5); case h => first | exact St.rowAt st 0 rfl rfl | exact St.rowAt st 1 rfl rfl | exact St.rowAt st 2 rfl rfl | exact St.rowAt st 3 rfl rfl | fail)
    | ((with_reducible apply exr6); case h => first | exact St.rowAt st 0 rfl rfl | exact St.rowAt st 1 rfl rfl | exact St.rowAt st 2 rfl rfl | exact St.rowAt st 3 rfl rfl | fail)
    | with_reducible refine LetI.id (by omega) (by omega) ?_
    | fail
  exact ⟨_, _, by rw [Nat.zero_add], st.pick [0] rfl (by decide)⟩
theorem mnone_pw {w0 : World} {b : Nat} {c : Cfg} {cp : Option Addr} {cn ck : Nat} {m : Mst} {p : Option Addr} {k : Nat} (hB : (mB b c cp cn ck m p k).p w0) (h : okM m) : Pw Try.prog 56 #[.pointer (some ⟨b, 0, none⟩)] (.bool false) w0 := by
  have st : St No w0 w0 [] := St.start w0
  refine mnone_ok _ _ _ ?_
  unfold mnone
  have := h.ok.e1
  refine ⟨_, Blk.at_ hB rfl, ?_⟩
  rw [show (m.ch.epoch == 0) = false by rw [beq_eq_false_iff_ne]; omega]
  exact ⟨rfl, st.kp⟩
section
variable {w0 : World} {b : Nat} {c : Cfg} {cp : Option Addr} {cn ck : Nat} {m : Mst} {p : Option Addr} {k : Nat}
theorem addAt (b o i : Nat) : (Addr.mk b o none).add (i * 1) = ⟨b, o + i, none⟩ := by simp [Addr.add]
theorem memAt {S : Nat → Prop} {w : World} (st : St S w0 w [mB b c cp cn ck m p k, mR m.ch.mem p k]) : MemAt w p m.ch.mem := ElAt.of_owns memE_len (st.hold 1 _ rfl) rfl
theorem mmember_pw (hB : (mB b c cp cn ck m p k).p w0) (hM : MemAt w0 p m.ch.mem) (h : okM m) (n : Int) : Pw Try.prog 67 #[.pointer (some ⟨b, 0, none⟩), .int .i64 n] (.bool (m.has n)) w0 := by
  have hl := h.ok.l2
  refine mmember_ok _ _ _ _ ?_
  unfold mmember
  have st : St No w0 w0 [] := St.start w0
  refine ⟨m.ch.epoch, p, m.ch.mem.length, k, m.ch.drain, Row.blk hB (fun j v hv => ?_), ?_⟩
  · match j, hv with
    | 0, hv => exact hv
    | 1, hv => exact hv
    | 2, hv => exact hv
    | j + 3, hv => simp at hv
  refine Pw.go (csince_pw (c := m.ch) hM rfl (by omega) _) st ?_
  clear st
  intro w st
  refine ⟨_, _, rfl, ?_⟩
  exact ⟨rfl, st.kp⟩
theorem mgoes_pw (hB : (mB b c cp cn ck m p k).p w0) (hM : MemAt w0 p m.ch.mem) (h : okM m) (n : Int) : Pw Try.prog 61 #[.pointer (some ⟨b, 0, none⟩), .int .i64 n] (.bool (m.goes n)) w0 := by
  have hl := h.ok.l2
  refine mgoes_ok _ _ _ _ ?_
  unfold mgoes
  have st : St No w0 w0 [] := St.start w0
  refine ⟨_, _, _, Blk.at_ hB rfl, ?_⟩
  refine ⟨fun q v w' => ∃ j : Nat, v = [.bool false, .int .i64 (j : Int)] ∧ q = m.ch.mem.length - j ∧ j ≤ m.ch.mem.length ∧ ((m.ch.mem.drop j).any fun x => x.1 != n && m.wh x.1) = m.goes n ∧ St No w0 w' [], ⟨_, 0, rfl, rfl, by omega, rfl, st⟩, ?_⟩
  clear st
  rintro _ _ _ w ⟨j, hv, rfl, hj, hb, st⟩
  obtain ⟨rfl, rfl⟩ : _ ∧ _ := by simpa using hv
  clear hv
  refine Br.dec (fun h1 => ?_) (fun h1 => ?_)
  · have hjl : j < m.ch.mem.length := by omega
    obtain ⟨a, ha, hr⟩ := hM j hjl
    have hx := h.node (List.getElem_mem hjl)
    rw [List.drop_eq_getElem_cons hjl, List.any_cons] at hb
    refine NilOk.intro ha ⟨⟨by omega, by omega⟩, _, _, Row.kp st.kp (not_no _) hr, ?_⟩
    refine St.alloc st ?_; clear st; intro bx w st
    repeat' first
      | (with_reducible refine St.alloc st ?_; (try clear st); intro b w st)
      | with_reducible refine sz_and (by (repeat rw [ByteArray.size_append]); omega) ?_
      | (with_reducible apply ex0c; case h => first | exact St.cell st 0 rfl rfl | exact St.cell st 1 rfl rfl | exact St.cell st 2 rfl rfl | exact St.cell st 3 rfl rfl | exact St.cell st 4 rfl rfl | fail)
      | (with_reducible apply ex1c; case h => first | exact St.cell st 0 rfl rfl | exact St.cell st 1 rfl rfl | exact St.cell st 2 rfl rfl | exact St.cell st 3 rfl rfl | exact St.cell st 4 rfl rfl | fail)
      | (with_reducible apply ex3c; case h => first | exact St.cell st 0 rfl rfl | exact St.cell st 1 rfl rfl | exact St.cell st 2 rfl rfl | exact St.cell st 3 rfl rfl | exact St.cell st 4 rfl rfl | fail)
      | (with_reducible apply ex0r; case h => first | exact St.rows st 0 rfl | exact St.rows st 1 rfl | exact St.rows st 2 rfl | exact St.rows st 3 rfl | exact St.rows st 4 rfl | fail)
      | (with_reducible apply exr2; case h => first | exact St.rows st 0 rfl | exact St.rows st 1 rfl | exact St.rows st 2 rfl | exact St.rows st 3 rfl | exact St.rows st 4 rfl | fail)
      | (with_reducible apply exr3; case h => first | exact St.rows st 0 rfl | exact St.rows st 1 rfl | exact St.rows st 2 rfl | exact St.rows st 3 rfl | exact St.rows st 4 rfl | fail)
      | (with_reducible apply exr4; case h => first | exact St.rows st 0 rfl | exact St.rows st 1 rfl | exact St.rows st 2 rfl | exact St.rows st 3 rfl | exact St.rows st 4 rfl | fail)
      | (with_reducible apply exr5; case h => first | exact St.rows st 0 rfl | exact St.rows st 1 rfl | exact St.rows st 2 rfl | exact St.rows st 3 rfl | exact St.rows st 4 rfl | fail)
      | (with_reducible apply exr6; case h => first | exact St.rows st 0 rfl | exact St.rows st 1 rfl | exact St.rows st 2 rfl | exact St.rows st 3 rfl | exact St.rows st 4 rfl | fail)
      | (with_reducible apply exWr; case h => first | exact St.wr st 0 rfl rfl | exact St.wr st 1 rfl rfl | exact St.wr st 2 rfl rfl | exact St.wr st 3 rfl rfl | exact St.wr st 4 rfl rfl | fail)
      | (with_reducible apply exWrRow; case h => first | exact St.wrRow st 0 rfl rfl rfl | exact St.wrRow st 1 rfl rfl rfl | exact St.wrRow st 2 rfl rfl rfl | exact St.wrRow st 3 rfl rfl rfl | exact St.wrRow st 4 rfl rfl rfl | fail)
      | (with_reducible refine LetW.cell ?_; (first | refine St.store st 0 rfl ?_ | refine St.store st 1 rfl ?_ | refine St.store st 2 rfl ?_ | refine St.store st 3 rfl ?_ | refine St.store st 4 rfl ?_ | fail); (try clear st); intro w st; simp only [List.set] at st)
      | (with_reducible refine LetW.rows ?_; (first | refine St.storeRow st 0 rfl ?_ | refine St.storeRow st 1 rfl ?_ | refine St.storeRow st 2 rfl ?_ | refine St.storeRow st 3 rfl ?_ | refine St.storeRow st 4 rfl ?_ | fail); (try clear st); intro w st; simp only [List.set, setsL] at st)
      | ((with_reducible apply exr4); case h => first | exact St.rowAt st 0 rfl rfl | exact St.rowAt st 1 rfl rfl | exact St.rowAt st 2 rfl rfl | exact St.rowAt st 3 rfl rfl | exact St.rowAt st 4 rfl rfl | fail)
      | ((with_reducible apply exr5); case h => first | exact St.rowAt st 0 rfl rfl | exact St.rowAt st 1 rfl rfl | exact St.rowAt st 2 rfl rfl | exact St.rowAt st 3 rfl rfl | exact St.rowAt st 4 rfl rfl | fail)
      | ((with_reducible apply exr6); case h => first | exact St.rowAt st 0 rfl rfl | exact St.rowAt st 1 rfl rfl | exact St.rowAt st 2 rfl rfl | exact St.rowAt st 3 rfl rfl | exact St.rowAt st 4 rfl rfl | fail)
      | with_reducible refine LetI.id (by omega) (by omega) ?_
      | fail
    generalize m.ch.mem[j] = x at *
    refine Br.bool (fun h2 => ?_) (fun h2 => ?_)
    · refine ⟨_, st.cell 0 rfl rfl, ⟨by omega, by omega⟩, _, by rw [addAt]; exact Blk.at_ (Atom.stable _ st.kp (fun _ _ h => h) hB) ((List.getElem?_toArray ..).trans (wholeAt h.hl h.wl (i := x.1.toNat) (by omega))), ?_⟩
      have hw : m.whole.getD x.1.toNat false = m.wh x.1 := rfl
      rw [hw]
      refine Br.bool (fun h3 => ?_) (fun h3 => ?_)
      · rw [h2, h3] at hb
        exact ⟨by rw [← hb]; rfl, st.kp⟩
      · refine LetI.id (by omega) (by omega) ⟨_, by omega, j + 1, by simp, rfl, by omega, ?_, st.tail⟩
        rw [h3, Bool.and_false, Bool.false_or] at hb
        exact hb
    · refine LetI.id (by omega) (by omega) ⟨_, by omega, j + 1, by simp, rfl, by omega, ?_, st.tail⟩
      rw [h2, Bool.false_and, Bool.false_or] at hb
      exact hb
  · rw [List.drop_eq_nil_of_le (by omega)] at hb
    exact ⟨by rw [← hb]; rfl, st.kp⟩
theorem mleaves_pw (hB : (mB b c cp cn ck m p k).p w0) (hM : MemAt w0 p m.ch.mem) (h : okM m) (n : Int) : Pw Try.prog 66 #[.pointer (some ⟨b, 0, none⟩), .int .i64 n] (.int .i64 (m.leaves n)) w0 := by
  have st : St No w0 w0 [] := St.start w0
  refine mleaves_ok _ _ _ _ ?_
  unfold mleaves Mst.leaves
  refine Pw.go (mnone_pw hB h) st ?_; clear st; intro w st
  refine ⟨_, rfl, Br.nay rfl ?_⟩
  refine Pw.go (mmember_pw (Atom.stable _ st.kp (fun _ _ h => h) hB) (hM.no st.kp) h n) st ?_; clear st; intro w st
  refine ⟨_, rfl, ?_⟩
  refine Br.not (Br.bool (fun h1 => ?_) (fun h1 => ?_))
  · refine Pw.go (mgoes_pw (Atom.stable _ st.kp (fun _ _ h => h) hB) (hM.no st.kp) h n) st ?_; clear st; intro w st
    refine ⟨_, rfl, ?_⟩
    rw [if_pos h1]
    refine Br.not (Br.bool (fun h2 => ?_) (fun h2 => ?_))
    · rw [if_pos h2]; exact ⟨rfl, st.kp⟩
    · rw [if_neg (by simp [h2])]; exact ⟨rfl, st.kp⟩
  · rw [if_neg (by simp [h1])]; exact ⟨rfl, st.kp⟩
end
end Go.Proofs.Ytljipmhkpnigkaa
