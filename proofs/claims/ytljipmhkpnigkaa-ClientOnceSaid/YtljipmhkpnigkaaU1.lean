/- Package setups, and the document's answer for it: the contracts. -/
import Derived.Test.YtljipmhkpnigkaaDU
import Derived.Test.YtljipmhkpnigkaaFR
import Derived.Test.YtljipmhkpnigkaaSP
namespace Go.Proofs.Ytljipmhkpnigkaa
open Go.Vc Go.Codec

abbrev intE (n : Int) : List Value := [.int .i64 n]
theorem intE_len (n : Int) : (intE n).length = 1 := rfl
theorem intE_plain (n : Int) : ∀ u ∈ intE n, notAgg u = true := by simp [intE, notAgg]
abbrev IntAt (w : World) (p : Option Addr) (l : List Int) : Prop := ElAt intE 1 w p l
theorem infoInt : (Try.prog.info? 3).map (fun i => (i.zero, i.size, i.bytes)) = some (some (.int .i64 0), 1, 8) := by kernel_rfl
abbrev cfL (c : Cfg) (p : Option Addr) (n k : Nat) : List Value := [.int .i64 c.nodes, .int .i64 c.chain, .int .i64 c.clients, .slice p n k, .int .i64 c.queue, .int .i64 c.window, .int .i64 c.reads, .int .i64 c.link, .int .i64 c.patience, .int .i64 c.timeout, .int .i64 c.budget, .int .i64 c.refill]
abbrev cfV (c : Cfg) (p : Option Addr) (n k : Nat) : Value := .agg #[.int .i64 c.nodes, .int .i64 c.chain, .int .i64 c.clients, .slice p n k, .int .i64 c.queue, .int .i64 c.window, .int .i64 c.reads, .int .i64 c.link, .int .i64 c.patience, .int .i64 c.timeout, .int .i64 c.budget, .int .i64 c.refill]

theorem clamp_pu (n lo hi : Int) : Pu Try.prog 48 #[.int .i64 n, .int .i64 lo, .int .i64 hi] (.int .i64 (near n lo hi)) := by
  intro w0
  refine clamp_ok _ _ _ _ _ ?_
  unfold clamp
  exact LetI.of (LetI.of ⟨rfl, Kp.refl _ _⟩)
theorem rnear_pu (n lo hi : Int) : Pu Try.prog 50 #[.int .i64 n, .int .i64 lo, .int .i64 hi] (.int .i64 (near n lo hi)) := by
  intro w0
  refine rnear_ok _ _ _ _ _ ?_
  unfold rnear
  exact LetI.of (LetI.of ⟨rfl, Kp.refl _ _⟩)
section
variable {S : Nat → Prop} {w0 w : World} {L : List Atom}
theorem sfit1_go (st : St S w0 w L) (k : Nat) {b t i : Nat} {cs : List Value} {n lo hi : Int} (hA : L[k]? = some (.blk b t cs)) (hv : cs[i]? = some (.int .i64 n)) {R : Ending → World → Prop}
    (hR : ∀ w', St S w0 w' (L.set k (.blk b t (cs.set i (.int .i64 (near n lo hi))))) → R (.returned (.tuple #[])) w') : Ca Try.prog 47 #[.pointer (some ⟨b, i, none⟩), .int .i64 lo, .int .i64 hi] w R := by
  refine sfit1_ok _ _ _ _ _ ?_
  refine ⟨_, st.cell k hA hv, Pu.go (clamp_pu n lo hi) st fun w st => ⟨_, rfl, st.wr k hA hv, ?_⟩⟩
  exact St.store st k hA hR
theorem sfit1_row (st : St S w0 w L) (k : Nat) {B n c j : Nat} {a : Addr} {q : List Int} {lo hi : Int} (hA : L[k]? = some (.row B 3 1 (.slice (some a) n c) n (cellsOf intE q))) (hn : n = q.length) (hj : j < q.length) {R : Ending → World → Prop}
    (hR : ∀ w', St S w0 w' (L.set k (.row B 3 1 (.slice (some a) n c) n (cellsOf intE (q.set j (near q[j] lo hi))))) → R (.returned (.tuple #[])) w') : Ca Try.prog 47 #[.pointer (some (a.add (j * 1))), .int .i64 lo, .int .i64 hi] w R := by
  refine sfit1_ok _ _ _ _ _ ?_
  obtain ⟨a', h', hr⟩ := ElAt.of_owns intE_len (st.hold k _ hA) hn j hj
  cases h'
  refine ⟨_, by simpa [addr_zero] using Row.get hr (j := 0) rfl, Pu.go (clamp_pu q[j] lo hi) st fun w st => ⟨_, rfl, ?_⟩⟩
  obtain ⟨h1, h2⟩ := St.rowSet st k (x := near q[j] lo hi) (F := fun w' => R (.returned (.tuple #[])) w') intE_len hA hn hj (intE_plain _) hR
  refine ⟨?_, ?_⟩
  · have := (NotAgg.spec h1.1).2
    simpa [addr_zero] using this
  · simpa [setRow, addr_zero] using h2
end
def NewI (w : World) (l : List Int) (p : Option Addr) (k : Nat) (w' : World) : Prop := w'.ownsRow w.heap.size 3 1 (.slice p l.length k) l.length (cellsOf intE l) ∧ Kp No w w'
theorem iclone_ca {w0 : World} {n k : Nat} {p : Option Addr} {l : List Int} (hM : IntAt w0 p l) (hn : n = l.length) (hl : l.length ≤ 1000) :
    Ca Try.prog 49 #[.slice p n k] w0 fun e w' => ∃ p' k', e = .returned (.slice p' l.length k') ∧ NewI w0 l p' k' w' := by
  subst hn
  have st : St No w0 w0 [] := St.start w0
  obtain ⟨i0, hi0, hz0, hs0, hb0⟩ := info_at infoInt
  refine iclone_ok _ _ _ _ _ (Br.bool (fun h => ?_) (fun h => ?_))
  · have : l = [] := by
      rcases Nat.eq_zero_or_pos l.length with h0 | h0
      · exact List.eq_nil_of_length_eq_zero h0
      · obtain ⟨a, rfl⟩ := hM.some_ h0
        simp at h
    subst this
    exact ⟨none, 0, rfl, owns_nil _ _ _ _, Kp.refl _ _⟩
  · refine LetA.blk fun b w1 hb hB hk => ?_
    have st1 := st.pushRow (e := 3) (size := 1) (n := 0) (xs := cellsOf intE []) hk (owns_new (xs := []) hB (by omega) (by decide) rfl)
    refine St.appendEl st1 0 Try.underlying22 hi0 hz0 hs0 hb0 rfl (by decide) intE_len intE_plain rfl (hM.no hk) (by cases p <;> simp_all) rfl (by simp [maxLen]; omega) (by omega) ?_
    intro p' c' w2 st2
    rw [Nat.zero_add, List.nil_append] at st2
    rw [Nat.zero_add]
    exact ⟨_, _, _, rfl, _, _, rfl, st2.hold 0 _ rfl, st2.kp⟩
theorem iequal_pw {w0 : World} {n k n' k' : Nat} {p p' : Option Addr} {a b : List Int} (ha : IntAt w0 p a) (hb : IntAt w0 p' b) (hn : n = a.length) (hn' : n' = b.length) (hl : a.length ≤ 4611686018427387904) :
    Pw Try.prog 84 #[.slice p n k, .slice p' n' k'] (.bool (decide (a = b))) w0 := by
  subst hn hn'
  have st : St No w0 w0 [] := St.start w0
  refine iequal_ok _ _ _ _ _ _ _ _ (Br.nei (fun h => ⟨?_, st.kp⟩) (fun h => ?_))
  · rw [decide_eq_false (fun he => h (by rw [he]))]
  refine ⟨fun m v w' => ∃ j : Nat, v = [.bool false, .int .i64 (j : Int)] ∧ m = a.length - j ∧ j ≤ a.length ∧ a.take j = b.take j ∧ St No w0 w' [], ⟨_, 0, rfl, rfl, by omega, rfl, st⟩, ?_⟩
  clear st
  rintro _ _ _ w ⟨j, hv, rfl, hj, he, st⟩
  obtain ⟨rfl, rfl⟩ : _ ∧ _ := by simpa using hv
  clear hv
  refine Br.dec (fun h1 => ?_) (fun h1 => ?_)
  · have hjl : j < a.length := by omega
    have hjl' : j < b.length := by omega
    obtain ⟨x, hx, hr⟩ := ha j hjl
    obtain ⟨x', hx', hr'⟩ := hb j hjl'
    have hc := Row.get (Row.kp st.kp (not_no _) hr) (j := 0) rfl
    have hc' := Row.get (Row.kp st.kp (not_no _) hr') (j := 0) rfl
    rw [Nat.zero_add, addr_zero] at hc hc'
    refine NilOk.intro hx ⟨⟨by omega, by omega⟩, _, hc, NilOk.intro hx' ⟨⟨by omega, by omega⟩, _, hc', ?_⟩⟩
    repeat' first
      | (with_reducible refine St.alloc st ?_; (try clear st); intro b w st)
      | with_reducible refine sz_and (by (repeat rw [ByteArray.size_append]); omega) ?_
      | (with_reducible apply ex0c; case h => first | exact St.cell st 0 rfl rfl | exact St.cell st 1 rfl rfl | exact St.cell st 2 rfl rfl | exact St.cell st 3 rfl rfl | fail)
      | (with_reducible apply ex1c; case h => first | exact St.cell st 0 rfl rfl | exact St.cell st 1 rfl rfl | exact St.cell st 2 rfl rfl | exact St.cell st 3 rfl rfl | fail)
      | (with_reducible apply ex3c; case h => first | exact St.cell st 0 rfl rfl | exact St.cell st 1 rfl rfl | exact St.cell st 2 rfl rfl | exact St.cell st 3 rfl rfl | fail)
      | (with_reducible apply ex0r; case h => first | exact St.rows st 0 rfl | exact St.rows st 1 rfl | exact St.rows st 2 rfl | exact St.rows st 3 rfl | fail)
      | (with_reducible apply exr2; case h => first | exact St.rows st 0 rfl | exact St.rows st 1 rfl | exact St.rows st 2 rfl | exact St.rows st 3 rfl | fail)
      | (with_reducible apply exr3; case h => first | exact St.rows st 0 rfl | exact St.rows st 1 rfl | exact St.rows st 2 rfl | exact St.rows st 3 rfl | fail)
      | (with_reducible apply exr4; case h => first | exact St.rows st 0 rfl | exact St.rows st 1 rfl | exact St.rows st 2 rfl | exact St.rows st 3 rfl | fail)
      | (with_reducible apply exr5; case h => first | exact St.rows st 0 rfl | exact St.rows st 1 rfl | exact St.rows st 2 rfl | exact St.rows st 3 rfl | fail)
      | (with_reducible apply exr6; case h => first | exact St.rows st 0 rfl | exact St.rows st 1 rfl | exact St.rows st 2 rfl | exact St.rows st 3 rfl | fail)
      | (with_reducible apply exWr; case h => first | exact St.wr st 0 rfl rfl | exact St.wr st 1 rfl rfl | exact St.wr st 2 rfl rfl | exact St.wr st 3 rfl rfl | fail)
      | (with_reducible apply exWrRow; case h => first | exact St.wrRow st 0 rfl rfl rfl | exact St.wrRow st 1 rfl rfl rfl | exact St.wrRow st 2 rfl rfl rfl | exact St.wrRow st 3 rfl rfl rfl | fail)
      | (with_reducible refine LetW.cell ?_; (first | refine St.store st 0 rfl ?_ | refine St.store st 1 rfl ?_ | refine St.store st 2 rfl ?_ | refine St.store st 3 rfl ?_ | fail); (try clear st); intro w st; simp only [List.set] at st)
      | (with_reducible refine LetW.rows ?_; (first | refine St.storeRow st 0 rfl ?_ | refine St.storeRow st 1 rfl ?_ | refine St.storeRow st 2 rfl ?_ | refine St.storeRow st 3 rfl ?_ | fail); (try clear st); intro w st; simp only [List.set, setsL] at st)
      | ((with_reducible apply exr4); case h => first | exact St.rowAt st 0 rfl rfl | exact St.rowAt st 1 rfl rfl | exact St.rowAt st 2 rfl rfl | exact St.rowAt st 3 rfl rfl | fail)
      | ((with_reducible apply exr5); case h => first | exact St.rowAt st 0 rfl rfl | exact St.rowAt st 1 rfl rfl | exact St.rowAt st 2 rfl rfl | exact St.rowAt st 3 rfl rfl | fail)
      | ((with_reducible apply exr6); case h => first | exact St.rowAt st 0 rfl rfl | exact St.rowAt st 1 rfl rfl | exact St.rowAt st 2 rfl rfl | exact St.rowAt st 3 rfl rfl | fail)
      | with_reducible refine LetI.id (by omega) (by omega) ?_
      | with_reducible refine Br.dec (fun h => ?_) (fun h => ?_)
      | with_reducible refine Br.eqi (fun h => ?_) (fun h => ?_)
      | with_reducible refine Br.nei (fun h => ?_) (fun h => ?_)
      | with_reducible refine Br.eqs' (fun h => ?_) (fun h => ?_)
      | with_reducible refine Br.eqs (fun h => ?_) (fun h => ?_)
      | with_reducible refine Br.not ?_
      | with_reducible refine Br.and_ ?_
      | with_reducible refine Br.sure rfl ?_
      | with_reducible refine Br.nay rfl ?_
      | with_reducible refine Br.eqb (fun h => ?_) (fun h => ?_)
      | with_reducible refine Br.bool (fun h => ?_) (fun h => ?_)
      | fail
    · exact ⟨by rw [decide_eq_false (fun hab => h (by subst hab; rfl))], st.kp⟩
    · exact ⟨_, by omega, j + 1, by simp, rfl, by omega, by
        rw [List.take_succ_eq_append_getElem hjl, List.take_succ_eq_append_getElem hjl', he, h], st⟩
  · refine ⟨?_, st.kp⟩
    obtain rfl : j = a.length := by omega
    rw [List.take_length, show a.length = b.length by omega, List.take_length] at he
    rw [decide_eq_true he]
theorem ssame1_pu (c : Cfg) (p : Option Addr) (n k : Nat) : Pu Try.prog 85 #[cfV c p n k] (.agg #[.int .i64 c.nodes, .int .i64 c.chain, .int .i64 c.clients, .int .i64 c.queue, .int .i64 c.window, .int .i64 c.reads, .int .i64 c.link, .int .i64 c.patience, .int .i64 c.timeout, .int .i64 c.budget, .int .i64 c.refill]) := by
  intro w0
  have st : St No w0 w0 [] := St.start w0
  refine ssame1_ok _ _ _ _ _ _ _ _ _ _ _ _ _ _ _ _ ?_
  unfold ssame1
  repeat' first
    | (with_reducible refine St.alloc st ?_; (try clear st); intro b w st)
    | with_reducible refine sz_and (by (repeat rw [ByteArray.size_append]); omega) ?_
    | (with_reducible apply ex0c; case h => first | exact St.cell st 0 rfl rfl | exact St.cell st 1 rfl rfl | exact St.cell st 2 rfl rfl | exact St.cell st 3 rfl rfl | fail)
    | (with_reducible apply ex1c; case h => first | exact St.cell st 0 rfl rfl | exact St.cell st 1 rfl rfl | exact St.cell st 2 rfl rfl | exact St.cell st 3 rfl rfl | fail)
    | (with_reducible apply ex3c; case h => first | exact St.cell st 0 rfl rfl | exact St.cell st 1 rfl rfl | exact St.cell st 2 rfl rfl | exact St.cell st 3 rfl rfl | fail)
    | (with_reducible apply ex0r; case h => first | exact St.rows st 0 rfl | exact St.rows st 1 rfl | exact St.rows st 2 rfl | exact St.rows st 3 rfl | fail)
    | (with_reducible apply exr2; case h => first | exact St.rows st 0 rfl | exact St.rows st 1 rfl | exact St.rows st 2 rfl | exact St.rows st 3 rfl | fail)
    | (with_reducible apply exr3; case h => first | exact St.rows st 0 rfl | exact St.rows st 1 rfl | exact St.rows st 2 rfl | exact St.rows st 3 rfl | fail)
    | (with_reducible apply exr4; case h => first | exact St.rows st 0 rfl | exact St.rows st 1 rfl | exact St.rows st 2 rfl | exact St.rows st 3 rfl | fail)
    | (with_reducible apply exr5; case h => first | exact St.rows st 0 rfl | exact St.rows st 1 rfl | exact St.rows st 2 rfl | exact St.rows st 3 rfl | fail)
    | (with_reducible apply exr6; case h => first | exact St.rows st 0 rfl | exact St.rows st 1 rfl | exact St.rows st 2 rfl | exact St.rows st 3 rfl | fail)
    | (with_reducible apply exr11; case h => first | exact St.rows st 0 rfl | exact St.rows st 1 rfl | exact St.rows st 2 rfl | exact St.rows st 3 rfl | fail)
    | (with_reducible apply exr14; case h => first | exact St.rows st 0 rfl | exact St.rows st 1 rfl | exact St.rows st 2 rfl | exact St.rows st 3 rfl | fail)
    | (with_reducible apply exWr; case h => first | exact St.wr st 0 rfl rfl | exact St.wr st 1 rfl rfl | exact St.wr st 2 rfl rfl | exact St.wr st 3 rfl rfl | fail)
    | (with_reducible apply exWrRow; case h => first | exact St.wrRow st 0 rfl rfl rfl | exact St.wrRow st 1 rfl rfl rfl | exact St.wrRow st 2 rfl rfl rfl | exact St.wrRow st 3 rfl rfl rfl | fail)
    | (with_reducible refine LetW.cell ?_; (first | refine St.store st 0 rfl ?_ | refine St.store st 1 rfl ?_ | refine St.store st 2 rfl ?_ | refine St.store st 3 rfl ?_ | fail); (try clear st); intro w st; simp only [List.set] at st)
    | (with_reducible refine LetW.rows ?_; (first | refine St.storeRow st 0 rfl ?_ | refine St.storeRow st 1 rfl ?_ | refine St.storeRow st 2 rfl ?_ | refine St.storeRow st 3 rfl ?_ | fail); (try clear st); intro w st; simp only [List.set, setsL] at st)
    | ((with_reducible apply exr4); case h => first | exact St.rowAt st 0 rfl rfl | exact St.rowAt st 1 rfl rfl | exact St.rowAt st 2 rfl rfl | exact St.rowAt st 3 rfl rfl | fail)
    | ((with_reducible apply exr5); case h => first | exact St.rowAt st 0 rfl rfl | exact St.rowAt st 1 rfl rfl | exact St.rowAt st 2 rfl rfl | exact St.rowAt st 3 rfl rfl | fail)
    | ((with_reducible apply exr6); case h => first | exact St.rowAt st 0 rfl rfl | exact St.rowAt st 1 rfl rfl | exact St.rowAt st 2 rfl rfl | exact St.rowAt st 3 rfl rfl | fail)
    | with_reducible refine LetI.id (by omega) (by omega) ?_
    | with_reducible refine Br.dec (fun h => ?_) (fun h => ?_)
    | with_reducible refine Br.eqi (fun h => ?_) (fun h => ?_)
    | with_reducible refine Br.nei (fun h => ?_) (fun h => ?_)
    | with_reducible refine Br.eqs' (fun h => ?_) (fun h => ?_)
    | with_reducible refine Br.eqs (fun h => ?_) (fun h => ?_)
    | with_reducible refine Br.not ?_
    | with_reducible refine Br.and_ ?_
    | with_reducible refine Br.sure rfl ?_
    | with_reducible refine Br.nay rfl ?_
    | with_reducible refine Br.eqb (fun h => ?_) (fun h => ?_)
    | with_reducible refine Br.bool (fun h => ?_) (fun h => ?_)
    | fail
  exact ⟨rfl, st.kp⟩
set_option maxHeartbeats 1000000 in
theorem ssame_pw {w0 : World} {n k n' k' : Nat} {p p' : Option Addr} {c d : Cfg} (ha : IntAt w0 p c.quanta) (hb : IntAt w0 p' d.quanta) (hn : n = c.quanta.length) (hn' : n' = d.quanta.length) (hl : c.quanta.length ≤ 4611686018427387904) :
    Pw Try.prog 51 #[cfV c p n k, cfV d p' n' k'] (.bool (decide (c = d))) w0 := by
  have st : St No w0 w0 [] := St.start w0
  refine ssame_ok _ _ _ _ _ _ _ _ _ _ _ _ _ _ _ _ _ _ _ _ _ _ _ _ _ _ _ _ _ _ ?_
  unfold ssame
  repeat' first
    | (with_reducible refine St.alloc st ?_; (try clear st); intro b w st)
    | with_reducible refine sz_and (by (repeat rw [ByteArray.size_append]); omega) ?_
    | (refine Pw.go (iequal_pw (ha.no st.kp) (hb.no st.kp) hn hn' hl) st ?_; (try clear st); intro w st; refine ⟨_, rfl, ?_⟩)
    | (refine Pu.go (ssame1_pu ⟨_, _, _, [], _, _, _, _, _, _, _, _⟩ _ _ _) st ?_; (try clear st); intro w st; refine ⟨_, _, _, _, _, _, _, _, _, _, _, rfl, ?_⟩)
    | (with_reducible apply ex0c; case h => first | exact St.cell st 0 rfl rfl | exact St.cell st 1 rfl rfl | exact St.cell st 2 rfl rfl | exact St.cell st 3 rfl rfl | fail)
    | (with_reducible apply ex1c; case h => first | exact St.cell st 0 rfl rfl | exact St.cell st 1 rfl rfl | exact St.cell st 2 rfl rfl | exact St.cell st 3 rfl rfl | fail)
    | (with_reducible apply ex3c; case h => first | exact St.cell st 0 rfl rfl | exact St.cell st 1 rfl rfl | exact St.cell st 2 rfl rfl | exact St.cell st 3 rfl rfl | fail)
    | (with_reducible apply ex0r; case h => first | exact St.rows st 0 rfl | exact St.rows st 1 rfl | exact St.rows st 2 rfl | exact St.rows st 3 rfl | fail)
    | (with_reducible apply exr2; case h => first | exact St.rows st 0 rfl | exact St.rows st 1 rfl | exact St.rows st 2 rfl | exact St.rows st 3 rfl | fail)
    | (with_reducible apply exr3; case h => first | exact St.rows st 0 rfl | exact St.rows st 1 rfl | exact St.rows st 2 rfl | exact St.rows st 3 rfl | fail)
    | (with_reducible apply exr4; case h => first | exact St.rows st 0 rfl | exact St.rows st 1 rfl | exact St.rows st 2 rfl | exact St.rows st 3 rfl | fail)
    | (with_reducible apply exr5; case h => first | exact St.rows st 0 rfl | exact St.rows st 1 rfl | exact St.rows st 2 rfl | exact St.rows st 3 rfl | fail)
    | (with_reducible apply exr6; case h => first | exact St.rows st 0 rfl | exact St.rows st 1 rfl | exact St.rows st 2 rfl | exact St.rows st 3 rfl | fail)
    | (with_reducible apply exr11; case h => first | exact St.rows st 0 rfl | exact St.rows st 1 rfl | exact St.rows st 2 rfl | exact St.rows st 3 rfl | fail)
    | (with_reducible apply exr14; case h => first | exact St.rows st 0 rfl | exact St.rows st 1 rfl | exact St.rows st 2 rfl | exact St.rows st 3 rfl | fail)
    | (with_reducible apply exWr; case h => first | exact St.wr st 0 rfl rfl | exact St.wr st 1 rfl rfl | exact St.wr st 2 rfl rfl | exact St.wr st 3 rfl rfl | fail)
    | (with_reducible apply exWrRow; case h => first | exact St.wrRow st 0 rfl rfl rfl | exact St.wrRow st 1 rfl rfl rfl | exact St.wrRow st 2 rfl rfl rfl | exact St.wrRow st 3 rfl rfl rfl | fail)
    | (with_reducible refine LetW.cell ?_; (first | refine St.store st 0 rfl ?_ | refine St.store st 1 rfl ?_ | refine St.store st 2 rfl ?_ | refine St.store st 3 rfl ?_ | fail); (try clear st); intro w st; simp only [List.set] at st)
    | (with_reducible refine LetW.rows ?_; (first | refine St.storeRow st 0 rfl ?_ | refine St.storeRow st 1 rfl ?_ | refine St.storeRow st 2 rfl ?_ | refine St.storeRow st 3 rfl ?_ | fail); (try clear st); intro w st; simp only [List.set, setsL] at st)
    | ((with_reducible apply exr4); case h => first | exact St.rowAt st 0 rfl rfl | exact St.rowAt st 1 rfl rfl | exact St.rowAt st 2 rfl rfl | exact St.rowAt st 3 rfl rfl | fail)
    | ((with_reducible apply exr5); case h => first | exact St.rowAt st 0 rfl rfl | exact St.rowAt st 1 rfl rfl | exact St.rowAt st 2 rfl rfl | exact St.rowAt st 3 rfl rfl | fail)
    | ((with_reducible apply exr6); case h => first | exact St.rowAt st 0 rfl rfl | exact St.rowAt st 1 rfl rfl | exact St.rowAt st 2 rfl rfl | exact St.rowAt st 3 rfl rfl | fail)
    | with_reducible refine LetI.id (by omega) (by omega) ?_
    | with_reducible refine Br.dec (fun h => ?_) (fun h => ?_)
    | with_reducible refine Br.eqi (fun h => ?_) (fun h => ?_)
    | with_reducible refine Br.nei (fun h => ?_) (fun h => ?_)
    | with_reducible refine Br.eqs' (fun h => ?_) (fun h => ?_)
    | with_reducible refine Br.eqs (fun h => ?_) (fun h => ?_)
    | with_reducible refine Br.not ?_
    | with_reducible refine Br.and_ ?_
    | with_reducible refine Br.sure rfl ?_
    | with_reducible refine Br.nay rfl ?_
    | with_reducible refine Br.eqb (fun h => ?_) (fun h => ?_)
    | with_reducible refine Br.bool (fun h => ?_) (fun h => ?_)
    | fail
  · obtain ⟨c1, c2, c3, c4, c5, c6, c7, c8, c9, c10, c11, c12⟩ := c
    obtain ⟨d1, d2, d3, d4, d5, d6, d7, d8, d9, d10, d11, d12⟩ := d
    simp only at h
    subst h
    refine ⟨congrArg (fun b => Ending.returned (Value.bool b)) (Bool.eq_iff_iff.2 ?_), st.kp⟩
    simp only [Bool.and_eq_true, beq_iff_eq, decide_eq_true_eq, Cfg.mk.injEq, and_true, true_and]
  · exact ⟨by rw [decide_eq_false (fun he => h (by rw [he]))], st.kp⟩
theorem takeFour {l : List Int} {n : Nat} (hn : n = l.length) : (min (n : Int) 4).toNat = (l.take 4).length := by
  rw [List.length_take]; omega
/-- a configuration of its own -/
def NewS (w : World) (c : Cfg) (v : Value) (w' : World) : Prop := ∃ p k, v = cfV c p c.quanta.length k ∧ NewI w c.quanta p k w'
set_option maxHeartbeats 4000000 in
theorem sfit_ca {w0 : World} {n k : Nat} {p : Option Addr} {c : Cfg} (hM : IntAt w0 p c.quanta) (hn : n = c.quanta.length) (hk : n ≤ k) (_hk' : k ≤ maxLen) :
    Ca Try.prog 13 #[cfV c p n k] w0 fun e w' => ∃ v, e = .returned v ∧ NewS w0 (fitS c) v w' := by
  have hml : maxLen = 9223372036854775807 := rfl
  have st : St No w0 w0 [] := St.start w0
  refine sfit_ok _ _ _ _ _ _ _ _ _ _ _ _ _ _ _ _ ?_
  unfold sfit
  refine St.alloc st ?_; clear st; intro bc w st
  refine St.alloc st ?_; clear st; intro br w st
  repeat' first
    | (with_reducible refine St.alloc st ?_; (try clear st); intro b w st)
    | with_reducible refine sz_and (by (repeat rw [ByteArray.size_append]); omega) ?_
    | (with_reducible apply ex0c; case h => first | exact St.cell st 0 rfl rfl | exact St.cell st 1 rfl rfl | exact St.cell st 2 rfl rfl | exact St.cell st 3 rfl rfl | fail)
    | (with_reducible apply ex1c; case h => first | exact St.cell st 0 rfl rfl | exact St.cell st 1 rfl rfl | exact St.cell st 2 rfl rfl | exact St.cell st 3 rfl rfl | fail)
    | (with_reducible apply ex3c; case h => first | exact St.cell st 0 rfl rfl | exact St.cell st 1 rfl rfl | exact St.cell st 2 rfl rfl | exact St.cell st 3 rfl rfl | fail)
    | (with_reducible apply ex0r; case h => first | exact St.rows st 0 rfl | exact St.rows st 1 rfl | exact St.rows st 2 rfl | exact St.rows st 3 rfl | fail)
    | (with_reducible apply exr2; case h => first | exact St.rows st 0 rfl | exact St.rows st 1 rfl | exact St.rows st 2 rfl | exact St.rows st 3 rfl | fail)
    | (with_reducible apply exr3; case h => first | exact St.rows st 0 rfl | exact St.rows st 1 rfl | exact St.rows st 2 rfl | exact St.rows st 3 rfl | fail)
    | (with_reducible apply exr4; case h => first | exact St.rows st 0 rfl | exact St.rows st 1 rfl | exact St.rows st 2 rfl | exact St.rows st 3 rfl | fail)
    | (with_reducible apply exr5; case h => first | exact St.rows st 0 rfl | exact St.rows st 1 rfl | exact St.rows st 2 rfl | exact St.rows st 3 rfl | fail)
    | (with_reducible apply exr6; case h => first | exact St.rows st 0 rfl | exact St.rows st 1 rfl | exact St.rows st 2 rfl | exact St.rows st 3 rfl | fail)
    | (with_reducible apply exr14; case h => first | exact St.rows st 0 rfl | exact St.rows st 1 rfl | exact St.rows st 2 rfl | exact St.rows st 3 rfl | fail)
    | (with_reducible apply exWr; case h => first | exact St.wr st 0 rfl rfl | exact St.wr st 1 rfl rfl | exact St.wr st 2 rfl rfl | exact St.wr st 3 rfl rfl | fail)
    | (with_reducible apply exWrRow; case h => first | exact St.wrRow st 0 rfl rfl rfl | exact St.wrRow st 1 rfl rfl rfl | exact St.wrRow st 2 rfl rfl rfl | exact St.wrRow st 3 rfl rfl rfl | fail)
    | (with_reducible refine LetW.cell ?_; (first | refine St.store st 0 rfl ?_ | refine St.store st 1 rfl ?_ | refine St.store st 2 rfl ?_ | refine St.store st 3 rfl ?_ | fail); (try clear st); intro w st; simp only [List.set] at st)
    | (with_reducible refine LetW.rows ?_; (first | refine St.storeRow st 0 rfl ?_ | refine St.storeRow st 1 rfl ?_ | refine St.storeRow st 2 rfl ?_ | refine St.storeRow st 3 rfl ?_ | fail); (try clear st); intro w st; simp only [List.set, setsL] at st)
    | ((with_reducible apply exr4); case h => first | exact St.rowAt st 0 rfl rfl | exact St.rowAt st 1 rfl rfl | exact St.rowAt st 2 rfl rfl | exact St.rowAt st 3 rfl rfl | fail)
    | ((with_reducible apply exr5); case h => first | exact St.rowAt st 0 rfl rfl | exact St.rowAt st 1 rfl rfl | exact St.rowAt st 2 rfl rfl | exact St.rowAt st 3 rfl rfl | fail)
    | ((with_reducible apply exr6); case h => first | exact St.rowAt st 0 rfl rfl | exact St.rowAt st 1 rfl rfl | exact St.rowAt st 2 rfl rfl | exact St.rowAt st 3 rfl rfl | fail)
    | with_reducible refine LetI.id (by omega) (by omega) ?_
    | (refine sfit1_go st 1 rfl rfl ?_; clear st; intro w st; simp only [List.set] at st; refine ⟨rfl, ?_⟩)
    | fail
  refine LetI.of ⟨⟨by omega, by omega, by omega, by omega, fun h => by cases h⟩, ?_⟩
  simp only [Int.toNat_natCast, Int.toNat_zero, Nat.sub_zero]
  rw [slice0 _ _ _ _ rfl]
  refine (iclone_ca ((hM.no st.kp).take 4) (takeFour hn) (by simp; omega)).mono ?_
  rintro _ w ⟨p', k', rfl, ho, hk1⟩
  replace st := st.pushRow hk1 ho
  clear ho hk1
  refine ⟨_, _, _, rfl, ?_⟩
  have hml4 : (c.quanta.take 4).length ≤ 4 := by simp; omega
  repeat' first
    | (with_reducible refine St.alloc st ?_; (try clear st); intro b w st)
    | with_reducible refine sz_and (by (repeat rw [ByteArray.size_append]); omega) ?_
    | (with_reducible apply ex0c; case h => first | exact St.cell st 0 rfl rfl | exact St.cell st 1 rfl rfl | exact St.cell st 2 rfl rfl | exact St.cell st 3 rfl rfl | fail)
    | (with_reducible apply ex1c; case h => first | exact St.cell st 0 rfl rfl | exact St.cell st 1 rfl rfl | exact St.cell st 2 rfl rfl | exact St.cell st 3 rfl rfl | fail)
    | (with_reducible apply ex3c; case h => first | exact St.cell st 0 rfl rfl | exact St.cell st 1 rfl rfl | exact St.cell st 2 rfl rfl | exact St.cell st 3 rfl rfl | fail)
    | (with_reducible apply ex0r; case h => first | exact St.rows st 0 rfl | exact St.rows st 1 rfl | exact St.rows st 2 rfl | exact St.rows st 3 rfl | fail)
    | (with_reducible apply exr2; case h => first | exact St.rows st 0 rfl | exact St.rows st 1 rfl | exact St.rows st 2 rfl | exact St.rows st 3 rfl | fail)
    | (with_reducible apply exr3; case h => first | exact St.rows st 0 rfl | exact St.rows st 1 rfl | exact St.rows st 2 rfl | exact St.rows st 3 rfl | fail)
    | (with_reducible apply exr4; case h => first | exact St.rows st 0 rfl | exact St.rows st 1 rfl | exact St.rows st 2 rfl | exact St.rows st 3 rfl | fail)
    | (with_reducible apply exr5; case h => first | exact St.rows st 0 rfl | exact St.rows st 1 rfl | exact St.rows st 2 rfl | exact St.rows st 3 rfl | fail)
    | (with_reducible apply exr6; case h => first | exact St.rows st 0 rfl | exact St.rows st 1 rfl | exact St.rows st 2 rfl | exact St.rows st 3 rfl | fail)
    | (with_reducible apply exr14; case h => first | exact St.rows st 0 rfl | exact St.rows st 1 rfl | exact St.rows st 2 rfl | exact St.rows st 3 rfl | fail)
    | (with_reducible apply exWr; case h => first | exact St.wr st 0 rfl rfl | exact St.wr st 1 rfl rfl | exact St.wr st 2 rfl rfl | exact St.wr st 3 rfl rfl | fail)
    | (with_reducible apply exWrRow; case h => first | exact St.wrRow st 0 rfl rfl rfl | exact St.wrRow st 1 rfl rfl rfl | exact St.wrRow st 2 rfl rfl rfl | exact St.wrRow st 3 rfl rfl rfl | fail)
    | (with_reducible refine LetW.cell ?_; (first | refine St.store st 0 rfl ?_ | refine St.store st 1 rfl ?_ | refine St.store st 2 rfl ?_ | refine St.store st 3 rfl ?_ | fail); (try clear st); intro w st; simp only [List.set] at st)
    | (with_reducible refine LetW.rows ?_; (first | refine St.storeRow st 0 rfl ?_ | refine St.storeRow st 1 rfl ?_ | refine St.storeRow st 2 rfl ?_ | refine St.storeRow st 3 rfl ?_ | fail); (try clear st); intro w st; simp only [List.set, setsL] at st)
    | ((with_reducible apply exr4); case h => first | exact St.rowAt st 0 rfl rfl | exact St.rowAt st 1 rfl rfl | exact St.rowAt st 2 rfl rfl | exact St.rowAt st 3 rfl rfl | fail)
    | ((with_reducible apply exr5); case h => first | exact St.rowAt st 0 rfl rfl | exact St.rowAt st 1 rfl rfl | exact St.rowAt st 2 rfl rfl | exact St.rowAt st 3 rfl rfl | fail)
    | ((with_reducible apply exr6); case h => first | exact St.rowAt st 0 rfl rfl | exact St.rowAt st 1 rfl rfl | exact St.rowAt st 2 rfl rfl | exact St.rowAt st 3 rfl rfl | fail)
    | with_reducible refine LetI.id (by omega) (by omega) ?_
    | (refine sfit1_go st 2 rfl rfl ?_; clear st; intro w st; simp only [List.set] at st; refine ⟨rfl, ?_⟩)
    | fail
  refine Br.eqi (fun h0 => ?_) (fun h0 => ?_)
  · have hq0 : c.quanta = [] := by
      have : (c.quanta.take 4).length = 0 := by omega
      rw [List.length_take] at this
      exact List.eq_nil_of_length_eq_zero (by omega)
    refine St.alloc st ?_; clear st; intro b9 w st
    repeat' first
      | (with_reducible refine St.alloc st ?_; (try clear st); intro b w st)
      | with_reducible refine sz_and (by (repeat rw [ByteArray.size_append]); omega) ?_
      | (with_reducible apply ex0c; case h => first | exact St.cell st 0 rfl rfl | exact St.cell st 1 rfl rfl | exact St.cell st 2 rfl rfl | exact St.cell st 3 rfl rfl | fail)
      | (with_reducible apply ex1c; case h => first | exact St.cell st 0 rfl rfl | exact St.cell st 1 rfl rfl | exact St.cell st 2 rfl rfl | exact St.cell st 3 rfl rfl | fail)
      | (with_reducible apply ex3c; case h => first | exact St.cell st 0 rfl rfl | exact St.cell st 1 rfl rfl | exact St.cell st 2 rfl rfl | exact St.cell st 3 rfl rfl | fail)
      | (with_reducible apply ex0r; case h => first | exact St.rows st 0 rfl | exact St.rows st 1 rfl | exact St.rows st 2 rfl | exact St.rows st 3 rfl | fail)
      | (with_reducible apply exr2; case h => first | exact St.rows st 0 rfl | exact St.rows st 1 rfl | exact St.rows st 2 rfl | exact St.rows st 3 rfl | fail)
      | (with_reducible apply exr3; case h => first | exact St.rows st 0 rfl | exact St.rows st 1 rfl | exact St.rows st 2 rfl | exact St.rows st 3 rfl | fail)
      | (with_reducible apply exr4; case h => first | exact St.rows st 0 rfl | exact St.rows st 1 rfl | exact St.rows st 2 rfl | exact St.rows st 3 rfl | fail)
      | (with_reducible apply exr5; case h => first | exact St.rows st 0 rfl | exact St.rows st 1 rfl | exact St.rows st 2 rfl | exact St.rows st 3 rfl | fail)
      | (with_reducible apply exr6; case h => first | exact St.rows st 0 rfl | exact St.rows st 1 rfl | exact St.rows st 2 rfl | exact St.rows st 3 rfl | fail)
      | (with_reducible apply exr14; case h => first | exact St.rows st 0 rfl | exact St.rows st 1 rfl | exact St.rows st 2 rfl | exact St.rows st 3 rfl | fail)
      | (with_reducible apply exWr; case h => first | exact St.wr st 0 rfl rfl | exact St.wr st 1 rfl rfl | exact St.wr st 2 rfl rfl | exact St.wr st 3 rfl rfl | fail)
      | (with_reducible apply exWrRow; case h => first | exact St.wrRow st 0 rfl rfl rfl | exact St.wrRow st 1 rfl rfl rfl | exact St.wrRow st 2 rfl rfl rfl | exact St.wrRow st 3 rfl rfl rfl | fail)
      | (with_reducible refine LetW.cell ?_; (first | refine St.store st 0 rfl ?_ | refine St.store st 1 rfl ?_ | refine St.store st 2 rfl ?_ | refine St.store st 3 rfl ?_ | fail); (try clear st); intro w st; simp only [List.set] at st)
      | (with_reducible refine LetW.rows ?_; (first | refine St.storeRow st 0 rfl ?_ | refine St.storeRow st 1 rfl ?_ | refine St.storeRow st 2 rfl ?_ | refine St.storeRow st 3 rfl ?_ | fail); (try clear st); intro w st; simp only [List.set, setsL] at st)
      | ((with_reducible apply exr4); case h => first | exact St.rowAt st 0 rfl rfl | exact St.rowAt st 1 rfl rfl | exact St.rowAt st 2 rfl rfl | exact St.rowAt st 3 rfl rfl | fail)
      | ((with_reducible apply exr5); case h => first | exact St.rowAt st 0 rfl rfl | exact St.rowAt st 1 rfl rfl | exact St.rowAt st 2 rfl rfl | exact St.rowAt st 3 rfl rfl | fail)
      | ((with_reducible apply exr6); case h => first | exact St.rowAt st 0 rfl rfl | exact St.rowAt st 1 rfl rfl | exact St.rowAt st 2 rfl rfl | exact St.rowAt st 3 rfl rfl | fail)
      | with_reducible refine LetI.id (by omega) (by omega) ?_
      | fail
    have hown := (st.own 0 _ rfl b9 rfl).resolve_left (fun h => h)
    replace st := st.turn 0 (A' := .row w0.heap.size 3 1 (.slice (some ⟨b9, 0, none⟩) 1 1) 1 (cellsOf intE [96])) rfl (Kp.refl _ _) (owns_new (st.hold 0 _ rfl) hown (by decide) rfl) (fun g hg => .inl (by cases hg; rfl))
    simp only [List.set] at st
    replace st : St No w0 w [_, _, _] := st.pick [0, 2, 3] rfl (by decide)
    obtain ⟨q, hqd⟩ : ∃ q : List Int, q = [96] := ⟨_, rfl⟩
    have hq : fitQ c.quanta = q.map (fun x => near x 96 65536) := by rw [hqd, hq0]; rfl
    have hql : q.length = 1 := by rw [hqd]; rfl
    obtain ⟨pq, hpq⟩ : ∃ pq : Option Addr, pq = some ⟨b9, 0, none⟩ := ⟨_, rfl⟩
    obtain ⟨kq, hkq⟩ : ∃ kq : Nat, kq = 1 := ⟨_, rfl⟩
    replace st : St No w0 w [.row w0.heap.size 3 1 (.slice pq q.length kq) q.length (cellsOf intE q), .blk br 24 (cfL ⟨0, 0, 0, [], 0, 0, 0, 0, 0, 0, 0, 0⟩ none 0 0), .blk bc 24 (cfL ⟨near c.nodes 1 6, near c.chain 1 (near c.nodes 1 6), near c.clients 1 6, [], c.queue, c.window, c.reads, c.link, c.patience, c.timeout, c.budget, c.refill⟩ pq q.length kq)] := by rw [hqd, hpq, hkq]; exact st
    rw [show ((1 : Nat) : Int) = (q.length : Int) by omega]
    clear hpq hkq hqd
    have hnl : ∀ j, ((q.take j).map (fun x => near x 96 65536) ++ q.drop j).length = q.length := fun j => by simp; omega
    refine ⟨fun m v w' => ∃ j : Nat, v = [.int .i64 (j : Int)] ∧ m = q.length - j ∧ j ≤ q.length ∧ St No w0 w' [.row w0.heap.size 3 1 (.slice pq q.length kq) q.length (cellsOf intE ((q.take j).map (fun x => near x 96 65536) ++ q.drop j)), .blk br 24 (cfL ⟨0, 0, 0, [], 0, 0, 0, 0, 0, 0, 0, 0⟩ none 0 0), .blk bc 24 (cfL ⟨near c.nodes 1 6, near c.chain 1 (near c.nodes 1 6), near c.clients 1 6, [], c.queue, c.window, c.reads, c.link, c.patience, c.timeout, c.budget, c.refill⟩ pq q.length kq)], ⟨_, 0, rfl, rfl, by omega, by simpa using st⟩, ?_⟩
    clear st
    rintro _ _ w ⟨j, hv, rfl, hj, st⟩
    obtain rfl : _ = _ := by simpa using hv
    clear hv
    refine Br.dec (fun h1 => ?_) (fun h1 => ?_)
    · have hjl : j < q.length := by omega
      repeat' first
        | (with_reducible refine St.alloc st ?_; (try clear st); intro b w st)
        | with_reducible refine sz_and (by (repeat rw [ByteArray.size_append]); omega) ?_
        | (with_reducible apply ex0c; case h => first | exact St.cell st 0 rfl rfl | exact St.cell st 1 rfl rfl | exact St.cell st 2 rfl rfl | exact St.cell st 3 rfl rfl | fail)
        | (with_reducible apply ex1c; case h => first | exact St.cell st 0 rfl rfl | exact St.cell st 1 rfl rfl | exact St.cell st 2 rfl rfl | exact St.cell st 3 rfl rfl | fail)
        | (with_reducible apply ex3c; case h => first | exact St.cell st 0 rfl rfl | exact St.cell st 1 rfl rfl | exact St.cell st 2 rfl rfl | exact St.cell st 3 rfl rfl | fail)
        | (with_reducible apply ex0r; case h => first | exact St.rows st 0 rfl | exact St.rows st 1 rfl | exact St.rows st 2 rfl | exact St.rows st 3 rfl | fail)
        | (with_reducible apply exr2; case h => first | exact St.rows st 0 rfl | exact St.rows st 1 rfl | exact St.rows st 2 rfl | exact St.rows st 3 rfl | fail)
        | (with_reducible apply exr3; case h => first | exact St.rows st 0 rfl | exact St.rows st 1 rfl | exact St.rows st 2 rfl | exact St.rows st 3 rfl | fail)
        | (with_reducible apply exr4; case h => first | exact St.rows st 0 rfl | exact St.rows st 1 rfl | exact St.rows st 2 rfl | exact St.rows st 3 rfl | fail)
        | (with_reducible apply exr5; case h => first | exact St.rows st 0 rfl | exact St.rows st 1 rfl | exact St.rows st 2 rfl | exact St.rows st 3 rfl | fail)
        | (with_reducible apply exr6; case h => first | exact St.rows st 0 rfl | exact St.rows st 1 rfl | exact St.rows st 2 rfl | exact St.rows st 3 rfl | fail)
        | (with_reducible apply exr14; case h => first | exact St.rows st 0 rfl | exact St.rows st 1 rfl | exact St.rows st 2 rfl | exact St.rows st 3 rfl | fail)
        | (with_reducible apply exWr; case h => first | exact St.wr st 0 rfl rfl | exact St.wr st 1 rfl rfl | exact St.wr st 2 rfl rfl | exact St.wr st 3 rfl rfl | fail)
        | (with_reducible apply exWrRow; case h => first | exact St.wrRow st 0 rfl rfl rfl | exact St.wrRow st 1 rfl rfl rfl | exact St.wrRow st 2 rfl rfl rfl | exact St.wrRow st 3 rfl rfl rfl | fail)
        | (with_reducible refine LetW.cell ?_; (first | refine St.store st 0 rfl ?_ | refine St.store st 1 rfl ?_ | refine St.store st 2 rfl ?_ | refine St.store st 3 rfl ?_ | fail); (try clear st); intro w st; simp only [List.set] at st)
        | (with_reducible refine LetW.rows ?_; (first | refine St.storeRow st 0 rfl ?_ | refine St.storeRow st 1 rfl ?_ | refine St.storeRow st 2 rfl ?_ | refine St.storeRow st 3 rfl ?_ | fail); (try clear st); intro w st; simp only [List.set, setsL] at st)
        | ((with_reducible apply exr4); case h => first | exact St.rowAt st 0 rfl rfl | exact St.rowAt st 1 rfl rfl | exact St.rowAt st 2 rfl rfl | exact St.rowAt st 3 rfl rfl | fail)
        | ((with_reducible apply exr5); case h => first | exact St.rowAt st 0 rfl rfl | exact St.rowAt st 1 rfl rfl | exact St.rowAt st 2 rfl rfl | exact St.rowAt st 3 rfl rfl | fail)
        | ((with_reducible apply exr6); case h => first | exact St.rowAt st 0 rfl rfl | exact St.rowAt st 1 rfl rfl | exact St.rowAt st 2 rfl rfl | exact St.rowAt st 3 rfl rfl | fail)
        | with_reducible refine LetI.id (by omega) (by omega) ?_
        | fail
      obtain ⟨g, cur, rfl, _⟩ := owns_blkOf (st.hold 0 _ rfl) (by omega)
      refine NilOk.intro rfl ⟨⟨by omega, by omega⟩, ?_⟩
      simp only [Int.toNat_natCast]
      refine sfit1_row st 0 (j := j) rfl (hnl j).symm (by rw [hnl j]; exact hjl) ?_
      clear st
      intro w st
      have e := map_step (fun x => near x 96 65536) hjl (by rw [hnl j]; exact hjl)
      simp only [List.set] at st
      rw [e] at st
      refine ⟨rfl, LetI.id (by omega) (by omega) ⟨_, by omega, j + 1, by simp, rfl, by omega, st⟩⟩
    · obtain rfl : j = q.length := by omega
      rw [List.take_length, List.drop_length, List.append_nil] at st
      repeat' first
        | (with_reducible refine St.alloc st ?_; (try clear st); intro b w st)
        | with_reducible refine sz_and (by (repeat rw [ByteArray.size_append]); omega) ?_
        | (with_reducible apply ex0c; case h => first | exact St.cell st 0 rfl rfl | exact St.cell st 1 rfl rfl | exact St.cell st 2 rfl rfl | exact St.cell st 3 rfl rfl | fail)
        | (with_reducible apply ex1c; case h => first | exact St.cell st 0 rfl rfl | exact St.cell st 1 rfl rfl | exact St.cell st 2 rfl rfl | exact St.cell st 3 rfl rfl | fail)
        | (with_reducible apply ex3c; case h => first | exact St.cell st 0 rfl rfl | exact St.cell st 1 rfl rfl | exact St.cell st 2 rfl rfl | exact St.cell st 3 rfl rfl | fail)
        | (with_reducible apply ex0r; case h => first | exact St.rows st 0 rfl | exact St.rows st 1 rfl | exact St.rows st 2 rfl | exact St.rows st 3 rfl | fail)
        | (with_reducible apply exr2; case h => first | exact St.rows st 0 rfl | exact St.rows st 1 rfl | exact St.rows st 2 rfl | exact St.rows st 3 rfl | fail)
        | (with_reducible apply exr3; case h => first | exact St.rows st 0 rfl | exact St.rows st 1 rfl | exact St.rows st 2 rfl | exact St.rows st 3 rfl | fail)
        | (with_reducible apply exr4; case h => first | exact St.rows st 0 rfl | exact St.rows st 1 rfl | exact St.rows st 2 rfl | exact St.rows st 3 rfl | fail)
        | (with_reducible apply exr5; case h => first | exact St.rows st 0 rfl | exact St.rows st 1 rfl | exact St.rows st 2 rfl | exact St.rows st 3 rfl | fail)
        | (with_reducible apply exr6; case h => first | exact St.rows st 0 rfl | exact St.rows st 1 rfl | exact St.rows st 2 rfl | exact St.rows st 3 rfl | fail)
        | (with_reducible apply exr14; case h => first | exact St.rows st 0 rfl | exact St.rows st 1 rfl | exact St.rows st 2 rfl | exact St.rows st 3 rfl | fail)
        | (with_reducible apply exWr; case h => first | exact St.wr st 0 rfl rfl | exact St.wr st 1 rfl rfl | exact St.wr st 2 rfl rfl | exact St.wr st 3 rfl rfl | fail)
        | (with_reducible apply exWrRow; case h => first | exact St.wrRow st 0 rfl rfl rfl | exact St.wrRow st 1 rfl rfl rfl | exact St.wrRow st 2 rfl rfl rfl | exact St.wrRow st 3 rfl rfl rfl | fail)
        | (with_reducible refine LetW.cell ?_; (first | refine St.store st 0 rfl ?_ | refine St.store st 1 rfl ?_ | refine St.store st 2 rfl ?_ | refine St.store st 3 rfl ?_ | fail); (try clear st); intro w st; simp only [List.set] at st)
        | (with_reducible refine LetW.rows ?_; (first | refine St.storeRow st 0 rfl ?_ | refine St.storeRow st 1 rfl ?_ | refine St.storeRow st 2 rfl ?_ | refine St.storeRow st 3 rfl ?_ | fail); (try clear st); intro w st; simp only [List.set, setsL] at st)
        | ((with_reducible apply exr4); case h => first | exact St.rowAt st 0 rfl rfl | exact St.rowAt st 1 rfl rfl | exact St.rowAt st 2 rfl rfl | exact St.rowAt st 3 rfl rfl | fail)
        | ((with_reducible apply exr5); case h => first | exact St.rowAt st 0 rfl rfl | exact St.rowAt st 1 rfl rfl | exact St.rowAt st 2 rfl rfl | exact St.rowAt st 3 rfl rfl | fail)
        | ((with_reducible apply exr6); case h => first | exact St.rowAt st 0 rfl rfl | exact St.rowAt st 1 rfl rfl | exact St.rowAt st 2 rfl rfl | exact St.rowAt st 3 rfl rfl | fail)
        | with_reducible refine LetI.id (by omega) (by omega) ?_
        | (refine sfit1_go st 2 rfl rfl ?_; clear st; intro w st; simp only [List.set] at st; refine ⟨rfl, ?_⟩)
        | fail
      have ho := st.hold 0 _ rfl
      have hq' : (fitS c).quanta = q.map (fun x => near x 96 65536) := hq
      refine ⟨_, rfl, pq, kq, ?_, ?_, st.kp⟩
      · rw [hq', List.length_map]; rfl
      · rw [hq', List.length_map]; exact ho
  · repeat' first
      | (with_reducible refine St.alloc st ?_; (try clear st); intro b w st)
      | with_reducible refine sz_and (by (repeat rw [ByteArray.size_append]); omega) ?_
      | (with_reducible apply ex0c; case h => first | exact St.cell st 0 rfl rfl | exact St.cell st 1 rfl rfl | exact St.cell st 2 rfl rfl | exact St.cell st 3 rfl rfl | fail)
      | (with_reducible apply ex1c; case h => first | exact St.cell st 0 rfl rfl | exact St.cell st 1 rfl rfl | exact St.cell st 2 rfl rfl | exact St.cell st 3 rfl rfl | fail)
      | (with_reducible apply ex3c; case h => first | exact St.cell st 0 rfl rfl | exact St.cell st 1 rfl rfl | exact St.cell st 2 rfl rfl | exact St.cell st 3 rfl rfl | fail)
      | (with_reducible apply ex0r; case h => first | exact St.rows st 0 rfl | exact St.rows st 1 rfl | exact St.rows st 2 rfl | exact St.rows st 3 rfl | fail)
      | (with_reducible apply exr2; case h => first | exact St.rows st 0 rfl | exact St.rows st 1 rfl | exact St.rows st 2 rfl | exact St.rows st 3 rfl | fail)
      | (with_reducible apply exr3; case h => first | exact St.rows st 0 rfl | exact St.rows st 1 rfl | exact St.rows st 2 rfl | exact St.rows st 3 rfl | fail)
      | (with_reducible apply exr4; case h => first | exact St.rows st 0 rfl | exact St.rows st 1 rfl | exact St.rows st 2 rfl | exact St.rows st 3 rfl | fail)
      | (with_reducible apply exr5; case h => first | exact St.rows st 0 rfl | exact St.rows st 1 rfl | exact St.rows st 2 rfl | exact St.rows st 3 rfl | fail)
      | (with_reducible apply exr6; case h => first | exact St.rows st 0 rfl | exact St.rows st 1 rfl | exact St.rows st 2 rfl | exact St.rows st 3 rfl | fail)
      | (with_reducible apply exr14; case h => first | exact St.rows st 0 rfl | exact St.rows st 1 rfl | exact St.rows st 2 rfl | exact St.rows st 3 rfl | fail)
      | (with_reducible apply exWr; case h => first | exact St.wr st 0 rfl rfl | exact St.wr st 1 rfl rfl | exact St.wr st 2 rfl rfl | exact St.wr st 3 rfl rfl | fail)
      | (with_reducible apply exWrRow; case h => first | exact St.wrRow st 0 rfl rfl rfl | exact St.wrRow st 1 rfl rfl rfl | exact St.wrRow st 2 rfl rfl rfl | exact St.wrRow st 3 rfl rfl rfl | fail)
      | (with_reducible refine LetW.cell ?_; (first | refine St.store st 0 rfl ?_ | refine St.store st 1 rfl ?_ | refine St.store st 2 rfl ?_ | refine St.store st 3 rfl ?_ | fail); (try clear st); intro w st; simp only [List.set] at st)
      | (with_reducible refine LetW.rows ?_; (first | refine St.storeRow st 0 rfl ?_ | refine St.storeRow st 1 rfl ?_ | refine St.storeRow st 2 rfl ?_ | refine St.storeRow st 3 rfl ?_ | fail); (try clear st); intro w st; simp only [List.set, setsL] at st)
      | ((with_reducible apply exr4); case h => first | exact St.rowAt st 0 rfl rfl | exact St.rowAt st 1 rfl rfl | exact St.rowAt st 2 rfl rfl | exact St.rowAt st 3 rfl rfl | fail)
      | ((with_reducible apply exr5); case h => first | exact St.rowAt st 0 rfl rfl | exact St.rowAt st 1 rfl rfl | exact St.rowAt st 2 rfl rfl | exact St.rowAt st 3 rfl rfl | fail)
      | ((with_reducible apply exr6); case h => first | exact St.rowAt st 0 rfl rfl | exact St.rowAt st 1 rfl rfl | exact St.rowAt st 2 rfl rfl | exact St.rowAt st 3 rfl rfl | fail)
      | with_reducible refine LetI.id (by omega) (by omega) ?_
      | fail
    have hq : fitQ c.quanta = (c.quanta.take 4).map (fun x => near x 96 65536) := by
      unfold fitQ
      rw [if_neg (by intro he; rw [he] at h0; simp at h0)]
    generalize c.quanta.take 4 = q at hq st hml4 ⊢
    obtain ⟨pq, hpq⟩ : ∃ pq : Option Addr, pq = p' := ⟨_, rfl⟩
    obtain ⟨kq, hkq⟩ : ∃ kq : Nat, kq = k' := ⟨_, rfl⟩
    subst hpq hkq
    have hnl : ∀ j, ((q.take j).map (fun x => near x 96 65536) ++ q.drop j).length = q.length := fun j => by simp; omega
    refine ⟨fun m v w' => ∃ j : Nat, v = [.int .i64 (j : Int)] ∧ m = q.length - j ∧ j ≤ q.length ∧ St No w0 w' [.row w0.heap.size 3 1 (.slice pq q.length kq) q.length (cellsOf intE ((q.take j).map (fun x => near x 96 65536) ++ q.drop j)), .blk br 24 (cfL ⟨0, 0, 0, [], 0, 0, 0, 0, 0, 0, 0, 0⟩ none 0 0), .blk bc 24 (cfL ⟨near c.nodes 1 6, near c.chain 1 (near c.nodes 1 6), near c.clients 1 6, [], c.queue, c.window, c.reads, c.link, c.patience, c.timeout, c.budget, c.refill⟩ pq q.length kq)], ⟨_, 0, rfl, rfl, by omega, by simpa using st⟩, ?_⟩
    clear st
    rintro _ _ w ⟨j, hv, rfl, hj, st⟩
    obtain rfl : _ = _ := by simpa using hv
    clear hv
    refine Br.dec (fun h1 => ?_) (fun h1 => ?_)
    · have hjl : j < q.length := by omega
      repeat' first
        | (with_reducible refine St.alloc st ?_; (try clear st); intro b w st)
        | with_reducible refine sz_and (by (repeat rw [ByteArray.size_append]); omega) ?_
        | (with_reducible apply ex0c; case h => first | exact St.cell st 0 rfl rfl | exact St.cell st 1 rfl rfl | exact St.cell st 2 rfl rfl | exact St.cell st 3 rfl rfl | fail)
        | (with_reducible apply ex1c; case h => first | exact St.cell st 0 rfl rfl | exact St.cell st 1 rfl rfl | exact St.cell st 2 rfl rfl | exact St.cell st 3 rfl rfl | fail)
        | (with_reducible apply ex3c; case h => first | exact St.cell st 0 rfl rfl | exact St.cell st 1 rfl rfl | exact St.cell st 2 rfl rfl | exact St.cell st 3 rfl rfl | fail)
        | (with_reducible apply ex0r; case h => first | exact St.rows st 0 rfl | exact St.rows st 1 rfl | exact St.rows st 2 rfl | exact St.rows st 3 rfl | fail)
        | (with_reducible apply exr2; case h => first | exact St.rows st 0 rfl | exact St.rows st 1 rfl | exact St.rows st 2 rfl | exact St.rows st 3 rfl | fail)
        | (with_reducible apply exr3; case h => first | exact St.rows st 0 rfl | exact St.rows st 1 rfl | exact St.rows st 2 rfl | exact St.rows st 3 rfl | fail)
        | (with_reducible apply exr4; case h => first | exact St.rows st 0 rfl | exact St.rows st 1 rfl | exact St.rows st 2 rfl | exact St.rows st 3 rfl | fail)
        | (with_reducible apply exr5; case h => first | exact St.rows st 0 rfl | exact St.rows st 1 rfl | exact St.rows st 2 rfl | exact St.rows st 3 rfl | fail)
        | (with_reducible apply exr6; case h => first | exact St.rows st 0 rfl | exact St.rows st 1 rfl | exact St.rows st 2 rfl | exact St.rows st 3 rfl | fail)
        | (with_reducible apply exr14; case h => first | exact St.rows st 0 rfl | exact St.rows st 1 rfl | exact St.rows st 2 rfl | exact St.rows st 3 rfl | fail)
        | (with_reducible apply exWr; case h => first | exact St.wr st 0 rfl rfl | exact St.wr st 1 rfl rfl | exact St.wr st 2 rfl rfl | exact St.wr st 3 rfl rfl | fail)
        | (with_reducible apply exWrRow; case h => first | exact St.wrRow st 0 rfl rfl rfl | exact St.wrRow st 1 rfl rfl rfl | exact St.wrRow st 2 rfl rfl rfl | exact St.wrRow st 3 rfl rfl rfl | fail)
        | (with_reducible refine LetW.cell ?_; (first | refine St.store st 0 rfl ?_ | refine St.store st 1 rfl ?_ | refine St.store st 2 rfl ?_ | refine St.store st 3 rfl ?_ | fail); (try clear st); intro w st; simp only [List.set] at st)
        | (with_reducible refine LetW.rows ?_; (first | refine St.storeRow st 0 rfl ?_ | refine St.storeRow st 1 rfl ?_ | refine St.storeRow st 2 rfl ?_ | refine St.storeRow st 3 rfl ?_ | fail); (try clear st); intro w st; simp only [List.set, setsL] at st)
        | ((with_reducible apply exr4); case h => first | exact St.rowAt st 0 rfl rfl | exact St.rowAt st 1 rfl rfl | exact St.rowAt st 2 rfl rfl | exact St.rowAt st 3 rfl rfl | fail)
        | ((with_reducible apply exr5); case h => first | exact St.rowAt st 0 rfl rfl | exact St.rowAt st 1 rfl rfl | exact St.rowAt st 2 rfl rfl | exact St.rowAt st 3 rfl rfl | fail)
        | ((with_reducible apply exr6); case h => first | exact St.rowAt st 0 rfl rfl | exact St.rowAt st 1 rfl rfl | exact St.rowAt st 2 rfl rfl | exact St.rowAt st 3 rfl rfl | fail)
        | with_reducible refine LetI.id (by omega) (by omega) ?_
        | fail
      obtain ⟨g, cur, rfl, _⟩ := owns_blkOf (st.hold 0 _ rfl) (by omega)
      refine NilOk.intro rfl ⟨⟨by omega, by omega⟩, ?_⟩
      simp only [Int.toNat_natCast]
      refine sfit1_row st 0 (j := j) rfl (hnl j).symm (by rw [hnl j]; exact hjl) ?_
      clear st
      intro w st
      have e := map_step (fun x => near x 96 65536) hjl (by rw [hnl j]; exact hjl)
      simp only [List.set] at st
      rw [e] at st
      refine ⟨rfl, LetI.id (by omega) (by omega) ⟨_, by omega, j + 1, by simp, rfl, by omega, st⟩⟩
    · obtain rfl : j = q.length := by omega
      rw [List.take_length, List.drop_length, List.append_nil] at st
      repeat' first
        | (with_reducible refine St.alloc st ?_; (try clear st); intro b w st)
        | with_reducible refine sz_and (by (repeat rw [ByteArray.size_append]); omega) ?_
        | (with_reducible apply ex0c; case h => first | exact St.cell st 0 rfl rfl | exact St.cell st 1 rfl rfl | exact St.cell st 2 rfl rfl | exact St.cell st 3 rfl rfl | fail)
        | (with_reducible apply ex1c; case h => first | exact St.cell st 0 rfl rfl | exact St.cell st 1 rfl rfl | exact St.cell st 2 rfl rfl | exact St.cell st 3 rfl rfl | fail)
        | (with_reducible apply ex3c; case h => first | exact St.cell st 0 rfl rfl | exact St.cell st 1 rfl rfl | exact St.cell st 2 rfl rfl | exact St.cell st 3 rfl rfl | fail)
        | (with_reducible apply ex0r; case h => first | exact St.rows st 0 rfl | exact St.rows st 1 rfl | exact St.rows st 2 rfl | exact St.rows st 3 rfl | fail)
        | (with_reducible apply exr2; case h => first | exact St.rows st 0 rfl | exact St.rows st 1 rfl | exact St.rows st 2 rfl | exact St.rows st 3 rfl | fail)
        | (with_reducible apply exr3; case h => first | exact St.rows st 0 rfl | exact St.rows st 1 rfl | exact St.rows st 2 rfl | exact St.rows st 3 rfl | fail)
        | (with_reducible apply exr4; case h => first | exact St.rows st 0 rfl | exact St.rows st 1 rfl | exact St.rows st 2 rfl | exact St.rows st 3 rfl | fail)
        | (with_reducible apply exr5; case h => first | exact St.rows st 0 rfl | exact St.rows st 1 rfl | exact St.rows st 2 rfl | exact St.rows st 3 rfl | fail)
        | (with_reducible apply exr6; case h => first | exact St.rows st 0 rfl | exact St.rows st 1 rfl | exact St.rows st 2 rfl | exact St.rows st 3 rfl | fail)
        | (with_reducible apply exr14; case h => first | exact St.rows st 0 rfl | exact St.rows st 1 rfl | exact St.rows st 2 rfl | exact St.rows st 3 rfl | fail)
        | (with_reducible apply exWr; case h => first | exact St.wr st 0 rfl rfl | exact St.wr st 1 rfl rfl | exact St.wr st 2 rfl rfl | exact St.wr st 3 rfl rfl | fail)
        | (with_reducible apply exWrRow; case h => first | exact St.wrRow st 0 rfl rfl rfl | exact St.wrRow st 1 rfl rfl rfl | exact St.wrRow st 2 rfl rfl rfl | exact St.wrRow st 3 rfl rfl rfl | fail)
        | (with_reducible refine LetW.cell ?_; (first | refine St.store st 0 rfl ?_ | refine St.store st 1 rfl ?_ | refine St.store st 2 rfl ?_ | refine St.store st 3 rfl ?_ | fail); (try clear st); intro w st; simp only [List.set] at st)
        | (with_reducible refine LetW.rows ?_; (first | refine St.storeRow st 0 rfl ?_ | refine St.storeRow st 1 rfl ?_ | refine St.storeRow st 2 rfl ?_ | refine St.storeRow st 3 rfl ?_ | fail); (try clear st); intro w st; simp only [List.set, setsL] at st)
        | ((with_reducible apply exr4); case h => first | exact St.rowAt st 0 rfl rfl | exact St.rowAt st 1 rfl rfl | exact St.rowAt st 2 rfl rfl | exact St.rowAt st 3 rfl rfl | fail)
        | ((with_reducible apply exr5); case h => first | exact St.rowAt st 0 rfl rfl | exact St.rowAt st 1 rfl rfl | exact St.rowAt st 2 rfl rfl | exact St.rowAt st 3 rfl rfl | fail)
        | ((with_reducible apply exr6); case h => first | exact St.rowAt st 0 rfl rfl | exact St.rowAt st 1 rfl rfl | exact St.rowAt st 2 rfl rfl | exact St.rowAt st 3 rfl rfl | fail)
        | with_reducible refine LetI.id (by omega) (by omega) ?_
        | (refine sfit1_go st 2 rfl rfl ?_; clear st; intro w st; simp only [List.set] at st; refine ⟨rfl, ?_⟩)
        | fail
      have ho := st.hold 0 _ rfl
      have hq' : (fitS c).quanta = q.map (fun x => near x 96 65536) := hq
      refine ⟨_, rfl, pq, kq, ?_, ?_, st.kp⟩
      · rw [hq', List.length_map]; rfl
      · rw [hq', List.length_map]; exact ho
end Go.Proofs.Ytljipmhkpnigkaa
