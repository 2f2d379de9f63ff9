/- Package master: acts that come in. -/
import Derived.Test.YtljipmhkpnigkaaMF
namespace Go.Proofs.Ytljipmhkpnigkaa
open Go.Vc Go.Codec

/-- an act: what is read of it; the rest as it lies there -/
structure ActM where
  kd : Int
  a : Int
  b : Int
  r1 : List Value
  p : Option Addr
  n : Nat
  k : Nat
  r2 : List Value
  h1 : r1.length = 25
  h2 : r2.length = 4
  hk : 0 ≤ kd ∧ kd ≤ 255
  ha : 0 ≤ a ∧ a ≤ 255
  hb : 0 ≤ b ∧ b ≤ 255
abbrev actE (x : ActM) : List Value := .int .u8 x.kd :: .int .u8 x.a :: .int .u8 x.b :: (x.r1 ++ (.slice x.p x.n x.k :: x.r2))
theorem actE_len (x : ActM) : (actE x).length = 33 := by have := x.h1; have := x.h2; simp; omega
theorem actE_at (x : ActM) : (actE x)[28]? = some (.slice x.p x.n x.k) := by
  show (x.r1 ++ (.slice x.p x.n x.k :: x.r2))[25]? = _
  rw [List.getElem?_append_right (by rw [x.h1]; omega), x.h1]
  rfl
abbrev ActAt (w : World) (p : Option Addr) (l : List ActM) : Prop := ElAt actE 33 w p l
theorem cons_of {n : Nat} {l : List Value} (h : l.length = n + 1) : ∃ v r, l = v :: r ∧ r.length = n := by
  cases l with
  | nil => simp at h
  | cons v r => exact ⟨v, r, rfl, by simpa using h⟩
theorem actRd {w : World} {cs : List Value} (h : Rd Try.prog w 55 cs) : ∃ x, cs = actE x := by
  have hl := (h.struct Try.underlying55).1
  rw [show Try.prog.cellsOf 55 = 33 by kernel_rfl] at hl
  obtain ⟨v0, c0, rfl, hl0⟩ := cons_of hl
  obtain ⟨v1, c1, rfl, hl1⟩ := cons_of hl0
  obtain ⟨v2, c2, rfl, hl2⟩ := cons_of hl1
  obtain ⟨v3, c3, rfl, hl3⟩ := cons_of hl2
  obtain ⟨v4, c4, rfl, hl4⟩ := cons_of hl3
  obtain ⟨v5, c5, rfl, hl5⟩ := cons_of hl4
  obtain ⟨v6, c6, rfl, hl6⟩ := cons_of hl5
  obtain ⟨v7, c7, rfl, hl7⟩ := cons_of hl6
  obtain ⟨v8, c8, rfl, hl8⟩ := cons_of hl7
  obtain ⟨v9, c9, rfl, hl9⟩ := cons_of hl8
  obtain ⟨v10, c10, rfl, hl10⟩ := cons_of hl9
  obtain ⟨v11, c11, rfl, hl11⟩ := cons_of hl10
  obtain ⟨v12, c12, rfl, hl12⟩ := cons_of hl11
  obtain ⟨v13, c13, rfl, hl13⟩ := cons_of hl12
  obtain ⟨v14, c14, rfl, hl14⟩ := cons_of hl13
  obtain ⟨v15, c15, rfl, hl15⟩ := cons_of hl14
  obtain ⟨v16, c16, rfl, hl16⟩ := cons_of hl15
  obtain ⟨v17, c17, rfl, hl17⟩ := cons_of hl16
  obtain ⟨v18, c18, rfl, hl18⟩ := cons_of hl17
  obtain ⟨v19, c19, rfl, hl19⟩ := cons_of hl18
  obtain ⟨v20, c20, rfl, hl20⟩ := cons_of hl19
  obtain ⟨v21, c21, rfl, hl21⟩ := cons_of hl20
  obtain ⟨v22, c22, rfl, hl22⟩ := cons_of hl21
  obtain ⟨v23, c23, rfl, hl23⟩ := cons_of hl22
  obtain ⟨v24, c24, rfl, hl24⟩ := cons_of hl23
  obtain ⟨v25, c25, rfl, hl25⟩ := cons_of hl24
  obtain ⟨v26, c26, rfl, hl26⟩ := cons_of hl25
  obtain ⟨v27, c27, rfl, hl27⟩ := cons_of hl26
  obtain ⟨v28, c28, rfl, hl28⟩ := cons_of hl27
  obtain ⟨v29, c29, rfl, hl29⟩ := cons_of hl28
  obtain ⟨v30, c30, rfl, hl30⟩ := cons_of hl29
  obtain ⟨v31, c31, rfl, hl31⟩ := cons_of hl30
  obtain ⟨v32, c32, rfl, hl32⟩ := cons_of hl31
  obtain rfl := List.length_eq_zero_iff.1 hl32
  obtain ⟨n0, rfl, w0⟩ := (h.field Try.underlying55 0 rfl (c := 1) (l := [v0]) (by kernel_rfl) rfl).int1 Try.underlying5
  obtain ⟨n1, rfl, w1⟩ := (h.field Try.underlying55 1 rfl (c := 1) (l := [v1]) (by kernel_rfl) rfl).int1 Try.underlying5
  obtain ⟨n2, rfl, w2⟩ := (h.field Try.underlying55 2 rfl (c := 1) (l := [v2]) (by kernel_rfl) rfl).int1 Try.underlying5
  obtain ⟨p, n, k, rfl, _⟩ := (((h.field Try.underlying55 4 rfl (c := 29) (l := [v4, v5, v6, v7, v8, v9, v10, v11, v12, v13, v14, v15, v16, v17, v18, v19, v20, v21, v22, v23, v24, v25, v26, v27, v28, v29, v30, v31, v32]) (by kernel_rfl) rfl).field Try.underlying53 11 rfl (c := 3) (l := [v27, v28, v29]) (by kernel_rfl) rfl).field Try.underlying32 1 rfl (c := 1) (l := [v28]) (by kernel_rfl) rfl).slice1 Try.underlying30
  exact ⟨⟨n0, n1, n2, [v3, v4, v5, v6, v7, v8, v9, v10, v11, v12, v13, v14, v15, v16, v17, v18, v19, v20, v21, v22, v23, v24, v25, v26, v27], p, n, k, [v29, v30, v31, v32], rfl, rfl, wf_u8 w0, wf_u8 w1, wf_u8 w2⟩, rfl⟩
theorem actsArg {w : World} {v : Value} (h : Arg Try.prog w 39 v) : ∃ (l : List ActM) (p : Option Addr) (k : Nat), v = .slice p l.length k ∧ ActAt w p l ∧ l.length ≤ maxLen := by
  obtain ⟨p, n, k, rfl, h1, h2, hi⟩ := h.slice Try.underlying39
  obtain ⟨l, rfl, hM⟩ := elems_of (sz := 33) (by kernel_rfl) (fun _ => actRd) hi
  exact ⟨l, p, k, rfl, hM, by omega⟩
theorem mgreat_pw {w0 : World} {n k : Nat} {p : Option Addr} {l : List ActM} (hA : ActAt w0 p l) (hn : n = l.length) (hl : l.length ≤ maxLen) (most : Int) :
    ∃ B : Bool, (B = false → (l.length : Int) ≤ most) ∧ Pw Try.prog 24 #[.slice p n k, .int .i64 most] (.bool B) w0 := by
  subst hn
  refine ⟨(l.any fun x => decide (10 < x.n)) || decide ((l.length : Int) > most), fun hB => ?_, ?_⟩
  · have := (Bool.or_eq_false_iff.1 hB).2
    have := of_decide_eq_false this
    omega
  have hm : maxLen = 9223372036854775807 := rfl
  have st : St No w0 w0 [] := St.start w0
  refine mgreat_ok _ _ _ _ _ _ ?_
  unfold mgreat
  refine ⟨fun q v w' => ∃ j : Nat, v = [.bool false, .int .i64 (j : Int)] ∧ q = l.length - j ∧ j ≤ l.length ∧ ((l.drop j).any fun x => decide (10 < x.n)) = (l.any fun x => decide (10 < x.n)) ∧ St No w0 w' [], ⟨_, 0, rfl, rfl, by omega, rfl, st⟩, ?_⟩
  clear st
  rintro _ _ _ w ⟨j, hv, rfl, hj, hb, st⟩
  obtain ⟨rfl, rfl⟩ : _ ∧ _ := by simpa using hv
  clear hv
  refine Br.dec (fun h1 => ?_) (fun h1 => ?_)
  · have hjl : j < l.length := by omega
    obtain ⟨a, ha, hr⟩ := hA j hjl
    replace hr := Row.kp st.kp (not_no _) hr
    rw [List.drop_eq_getElem_cons hjl, List.any_cons] at hb
    have hc := Row.get hr (j := 28) (actE_at _)
    refine NilOk.intro ha ⟨⟨by omega, by omega⟩, l[j].p, l[j].n, l[j].k, ?_, ?_⟩
    rotate_left
    · refine Br.dec (fun h2 => ?_) (fun h2 => ?_)
      · refine ⟨?_, st.kp⟩
        rw [← hb, decide_eq_true (by omega)]
        simp
      · refine LetI.id (by omega) (by omega) ⟨_, by omega, j + 1, by simp, rfl, by omega, ?_, st⟩
        rw [← hb, decide_eq_false (by omega)]
        simp
    · simpa [Addr.add_add] using hc
  · refine ⟨?_, st.kp⟩
    rw [List.drop_eq_nil_of_le (by omega)] at hb
    rw [← hb]
    simp
/-- what stands ahead may be let go -/
theorem dropsM {S : Nat → Prop} {w0 w : World} {L : List Atom} : ∀ {X : List Atom}, St S w0 w (X ++ L) → St S w0 w L
  | [], st => st
  | _ :: X, st => dropsM (X := X) st.tail
section
variable {w0 : World} {b : Nat} {c : Cfg} {cp : Option Addr} {cn ck : Nat} {m : Mst} {p : Option Addr} {k : Nat}
theorem mtakeDrained_u (h : okM m) {n : Int} (hn : 0 ≤ n ∧ n < m.nodes) (ep ix now : Int) (he : m.ch.epoch < 1099511627776) : Tk Try.prog 27 #[.pointer (some ⟨b, 0, none⟩), .int .i64 n, frA 12 ep ix, .int .i64 now] [mB b c cp cn ck m p k, mR m.ch.mem p k] fun e L' => ∃ (p' : Option Addr) (n' k' : Nat) (p2 : Option Addr) (k2 : Nat), e = .returned (.slice p' n' k') ∧ ((m.drained n ep).2 = true → (n' : Int) = m.nodes) ∧ L' = [mB b c cp cn ck (m.drained n ep).1 p2 k2, mR (m.drained n ep).1.ch.mem p2 k2] := by
  intro w0 st
  refine (mtakeDrained_tk h hn ep ix now he w0 st).mono ?_
  rintro _ w1 ⟨_, ⟨X, p', n', k', p2, k2, rfl, h1, rfl⟩, st⟩
  exact ⟨_, ⟨p', n', k', p2, k2, rfl, h1, rfl⟩, dropsM st⟩
end
theorem tmod_in {a b : Int} (ha : 0 ≤ a) (hb : 0 < b) : 0 ≤ a.tmod b ∧ a.tmod b < b := by
  rw [Int.tmod_eq_emod_of_nonneg ha]
  exact ⟨Int.emod_nonneg _ (by omega), Int.emod_lt_of_pos _ hb⟩
end Go.Proofs.Ytljipmhkpnigkaa
