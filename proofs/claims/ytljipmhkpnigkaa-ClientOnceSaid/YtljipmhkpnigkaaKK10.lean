/- Acts of clients that come in; ClientOnce, as a law of what comes in. -/
import Derived.Test.YtljipmhkpnigkaaKO
import Derived.Test.YtljipmhkpnigkaaCK
import Derived.Test.YtljipmhkpnigkaaUK
namespace Go.Proofs.Ytljipmhkpnigkaa
open Go.Vc Go.Codec

set_option maxRecDepth 100000 in
theorem opRd {W : World} {l : List Value} (h : Rd Try.prog W 47 l) : ∃ o : Opn, l = [.int .i64 o.kind, .string (mk o.key), .string (mk o.val), .int .i64 o.ver] := by
  obtain ⟨hl, hf⟩ := h.struct Try.underlying47
  rw [show Try.prog.cellsOf 47 = 4 by kernel_rfl] at hl
  match l, hl with
  | [a, b, c, d], _ =>
    have h0 : Rd Try.prog W 3 [a] := hf 0 _ rfl
    have h1 : Rd Try.prog W 9 [b] := hf 1 _ rfl
    have h2 : Rd Try.prog W 9 [c] := hf 2 _ rfl
    have h3 : Rd Try.prog W 3 [d] := hf 3 _ rfl
    obtain ⟨k, hk, _⟩ := h0.int Try.underlying3
    obtain ⟨x, hx, _⟩ := h1.string Try.underlying9
    obtain ⟨y, hy, _⟩ := h2.string Try.underlying9
    obtain ⟨n, hn, _⟩ := h3.int Try.underlying3
    obtain ⟨x, rfl⟩ := mk_of x
    obtain ⟨y, rfl⟩ := mk_of y
    simp only [List.cons.injEq, and_true] at hk hx hy hn
    subst hk hx hy hn
    exact ⟨⟨k, x, y, n⟩, rfl⟩
theorem cons_of {n : Nat} {l : List Value} (h : l.length = n + 1) : ∃ v r, l = v :: r ∧ r.length = n := by
  cases l with
  | nil => simp at h
  | cons v r => exact ⟨v, r, rfl, by simpa using h⟩
set_option maxRecDepth 100000 in
set_option maxHeartbeats 8000000 in
theorem frmRd {W : World} {cs : List Value} (h : Rd Try.prog W 53 cs) : ∃ (f : Frm) (p : Option Addr) (k : Nat), cs = frmL f p k ∧ MemAt W p f.ch.mem := by
  have hl := (h.struct Try.underlying53).1
  rw [show Try.prog.cellsOf 53 = 29 by kernel_rfl] at hl
  obtain ⟨v0, c0, rfl, hl0⟩ := cons_of hl
  obtain ⟨v1, c1, rfl, hl1⟩ := cons_of hl0
  obtain ⟨v2, c2, rfl, hl2⟩ := cons_of hl1
  obtain ⟨v3, c3, rfl, hl3⟩ := cons_of hl2
  obtain ⟨v4, c4, rfl, hl4⟩ := cons_of hl3
  obtain ⟨v5, c5, rfl, hl5⟩ := cons_of hl4
  obtain ⟨v6, c6, rfl, hl6⟩ := cons_of hl5
  obtain ⟨v7, c7, rfl, hl7⟩ := cons_of hl6
  obtain ⟨v8, c8, rfl, hl8⟩ := cons_of hl7
  obtain ⟨v9, c9, rfl, hl9⟩ := cons_of hl8
  obtain ⟨v10, c10, rfl, hl10⟩ := cons_of hl9
  obtain ⟨v11, c11, rfl, hl11⟩ := cons_of hl10
  obtain ⟨v12, c12, rfl, hl12⟩ := cons_of hl11
  obtain ⟨v13, c13, rfl, hl13⟩ := cons_of hl12
  obtain ⟨v14, c14, rfl, hl14⟩ := cons_of hl13
  obtain ⟨v15, c15, rfl, hl15⟩ := cons_of hl14
  obtain ⟨v16, c16, rfl, hl16⟩ := cons_of hl15
  obtain ⟨v17, c17, rfl, hl17⟩ := cons_of hl16
  obtain ⟨v18, c18, rfl, hl18⟩ := cons_of hl17
  obtain ⟨v19, c19, rfl, hl19⟩ := cons_of hl18
  obtain ⟨v20, c20, rfl, hl20⟩ := cons_of hl19
  obtain ⟨v21, c21, rfl, hl21⟩ := cons_of hl20
  obtain ⟨v22, c22, rfl, hl22⟩ := cons_of hl21
  obtain ⟨v23, c23, rfl, hl23⟩ := cons_of hl22
  obtain ⟨v24, c24, rfl, hl24⟩ := cons_of hl23
  obtain ⟨v25, c25, rfl, hl25⟩ := cons_of hl24
  obtain ⟨v26, c26, rfl, hl26⟩ := cons_of hl25
  obtain ⟨v27, c27, rfl, hl27⟩ := cons_of hl26
  obtain ⟨v28, c28, rfl, hl28⟩ := cons_of hl27
  obtain rfl := List.length_eq_zero_iff.1 hl28
  clear hl hl0
  obtain ⟨n0, rfl, _⟩ := (h.field Try.underlying53 0 rfl (c := 1) (l := [v0]) (by kernel_rfl) rfl).int1 Try.underlying3
  obtain ⟨n1, rfl, _⟩ := (h.field Try.underlying53 1 rfl (c := 1) (l := [v1]) (by kernel_rfl) rfl).int1 Try.underlying3
  obtain ⟨n2, rfl, _⟩ := (h.field Try.underlying53 2 rfl (c := 1) (l := [v2]) (by kernel_rfl) rfl).int1 Try.underlying3
  obtain ⟨n3, rfl, _⟩ := (h.field Try.underlying53 3 rfl (c := 1) (l := [v3]) (by kernel_rfl) rfl).int1 Try.underlying3
  obtain ⟨n4, rfl, _⟩ := (h.field Try.underlying53 4 rfl (c := 1) (l := [v4]) (by kernel_rfl) rfl).int1 Try.underlying3
  obtain ⟨n5, rfl, _⟩ := (h.field Try.underlying53 5 rfl (c := 1) (l := [v5]) (by kernel_rfl) rfl).int1 Try.underlying3
  obtain ⟨n6, rfl, _⟩ := (h.field Try.underlying53 6 rfl (c := 1) (l := [v6]) (by kernel_rfl) rfl).int1 Try.underlying3
  obtain ⟨n15, rfl, _⟩ := (h.field Try.underlying53 9 rfl (c := 1) (l := [v15]) (by kernel_rfl) rfl).int1 Try.underlying3
  obtain ⟨n26, rfl, _⟩ := (h.field Try.underlying53 12 rfl (c := 1) (l := [v26]) (by kernel_rfl) rfl).int1 Try.underlying3
  obtain ⟨n27, rfl, _⟩ := (h.field Try.underlying53 13 rfl (c := 1) (l := [v27]) (by kernel_rfl) rfl).int1 Try.underlying3
  obtain ⟨n28, rfl, _⟩ := (h.field Try.underlying53 14 rfl (c := 1) (l := [v28]) (by kernel_rfl) rfl).int1 Try.underlying3
  have hs7 := h.field Try.underlying53 7 rfl (c := 4) (l := [v7, v8, v9, v10]) (by kernel_rfl) rfl
  have hs8 := h.field Try.underlying53 8 rfl (c := 4) (l := [v11, v12, v13, v14]) (by kernel_rfl) rfl
  have hs10 := h.field Try.underlying53 10 rfl (c := 7) (l := [v16, v17, v18, v19, v20, v21, v22]) (by kernel_rfl) rfl
  have hs11 := h.field Try.underlying53 11 rfl (c := 3) (l := [v23, v24, v25]) (by kernel_rfl) rfl
  clear h
  obtain ⟨o, ho⟩ := opRd hs7
  obtain ⟨rfl, rfl, rfl, rfl⟩ : _ ∧ _ ∧ _ ∧ _ := by simpa using ho
  obtain ⟨n11, rfl, _⟩ := (hs8.field Try.underlying49 0 rfl (c := 1) (l := [v11]) (by kernel_rfl) rfl).int1 Try.underlying3
  obtain ⟨s12, rfl, _⟩ := (hs8.field Try.underlying49 1 rfl (c := 1) (l := [v12]) (by kernel_rfl) rfl).str1 Try.underlying9
  obtain ⟨n13, rfl, _⟩ := (hs8.field Try.underlying49 2 rfl (c := 1) (l := [v13]) (by kernel_rfl) rfl).int1 Try.underlying3
  obtain ⟨n14, rfl, _⟩ := (hs8.field Try.underlying49 3 rfl (c := 1) (l := [v14]) (by kernel_rfl) rfl).int1 Try.underlying3
  obtain ⟨n16, rfl, _⟩ := (hs10.field Try.underlying51 0 rfl (c := 1) (l := [v16]) (by kernel_rfl) rfl).int1 Try.underlying3
  obtain ⟨n17, rfl, _⟩ := (hs10.field Try.underlying51 1 rfl (c := 1) (l := [v17]) (by kernel_rfl) rfl).int1 Try.underlying3
  obtain ⟨n18, rfl, _⟩ := (hs10.field Try.underlying51 2 rfl (c := 1) (l := [v18]) (by kernel_rfl) rfl).int1 Try.underlying3
  have hs10o := hs10.field Try.underlying51 3 rfl (c := 4) (l := [v19, v20, v21, v22]) (by kernel_rfl) rfl
  obtain ⟨o2, ho2⟩ := opRd hs10o
  obtain ⟨rfl, rfl, rfl, rfl⟩ : _ ∧ _ ∧ _ ∧ _ := by simpa using ho2
  obtain ⟨c, p, k, hc, hM⟩ := chRd hs11
  obtain ⟨rfl, rfl, rfl⟩ : _ ∧ _ ∧ _ := by simpa using hc
  exact ⟨⟨n0, fun i => [n1, n2, n3, n4, n5, n6, n15, n26, n27, n28].getD i 0, o, ⟨n11, s12, n13, n14⟩, ⟨n16, n17, n18, o2⟩, c⟩, p, k, rfl, hM⟩
set_option maxRecDepth 100000 in
set_option maxHeartbeats 8000000 in
theorem actKRd {W : World} {cs : List Value} (h : Rd Try.prog W 74 cs) : ∃ x : ActK, cs = actK x ∧ MemAt W x.pf x.f.ch.mem := by
  have hl := (h.struct Try.underlying74).1
  rw [show Try.prog.cellsOf 74 = 39 by kernel_rfl] at hl
  obtain ⟨v0, c0, rfl, hl0⟩ := cons_of hl
  obtain ⟨v1, c1, rfl, hl1⟩ := cons_of hl0
  obtain ⟨v2, c2, rfl, hl2⟩ := cons_of hl1
  obtain ⟨v3, c3, rfl, hl3⟩ := cons_of hl2
  obtain ⟨v4, c4, rfl, hl4⟩ := cons_of hl3
  obtain ⟨v5, c5, rfl, hl5⟩ := cons_of hl4
  obtain ⟨v6, c6, rfl, hl6⟩ := cons_of hl5
  obtain ⟨v7, c7, rfl, hl7⟩ := cons_of hl6
  obtain ⟨v8, c8, rfl, hl8⟩ := cons_of hl7
  obtain ⟨v9, c9, rfl, hl9⟩ := cons_of hl8
  obtain ⟨v10, c10, rfl, hl10⟩ := cons_of hl9
  obtain ⟨v11, c11, rfl, hl11⟩ := cons_of hl10
  obtain ⟨v12, c12, rfl, hl12⟩ := cons_of hl11
  obtain ⟨v13, c13, rfl, hl13⟩ := cons_of hl12
  obtain ⟨v14, c14, rfl, hl14⟩ := cons_of hl13
  obtain ⟨v15, c15, rfl, hl15⟩ := cons_of hl14
  obtain ⟨v16, c16, rfl, hl16⟩ := cons_of hl15
  obtain ⟨v17, c17, rfl, hl17⟩ := cons_of hl16
  obtain ⟨v18, c18, rfl, hl18⟩ := cons_of hl17
  obtain ⟨v19, c19, rfl, hl19⟩ := cons_of hl18
  obtain ⟨v20, c20, rfl, hl20⟩ := cons_of hl19
  obtain ⟨v21, c21, rfl, hl21⟩ := cons_of hl20
  obtain ⟨v22, c22, rfl, hl22⟩ := cons_of hl21
  obtain ⟨v23, c23, rfl, hl23⟩ := cons_of hl22
  obtain ⟨v24, c24, rfl, hl24⟩ := cons_of hl23
  obtain ⟨v25, c25, rfl, hl25⟩ := cons_of hl24
  obtain ⟨v26, c26, rfl, hl26⟩ := cons_of hl25
  obtain ⟨v27, c27, rfl, hl27⟩ := cons_of hl26
  obtain ⟨v28, c28, rfl, hl28⟩ := cons_of hl27
  obtain ⟨v29, c29, rfl, hl29⟩ := cons_of hl28
  obtain ⟨v30, c30, rfl, hl30⟩ := cons_of hl29
  obtain ⟨v31, c31, rfl, hl31⟩ := cons_of hl30
  obtain ⟨v32, c32, rfl, hl32⟩ := cons_of hl31
  obtain ⟨v33, c33, rfl, hl33⟩ := cons_of hl32
  obtain ⟨v34, c34, rfl, hl34⟩ := cons_of hl33
  obtain ⟨v35, c35, rfl, hl35⟩ := cons_of hl34
  obtain ⟨v36, c36, rfl, hl36⟩ := cons_of hl35
  obtain ⟨v37, c37, rfl, hl37⟩ := cons_of hl36
  obtain ⟨v38, c38, rfl, hl38⟩ := cons_of hl37
  obtain rfl := List.length_eq_zero_iff.1 hl38
  clear hl hl0
  obtain ⟨n0, rfl, w0⟩ := (h.field Try.underlying74 0 rfl (c := 1) (l := [v0]) (by kernel_rfl) rfl).int1 Try.underlying5
  obtain ⟨n1, rfl, w1⟩ := (h.field Try.underlying74 1 rfl (c := 1) (l := [v1]) (by kernel_rfl) rfl).int1 Try.underlying5
  obtain ⟨n2, rfl, w2⟩ := (h.field Try.underlying74 2 rfl (c := 1) (l := [v2]) (by kernel_rfl) rfl).int1 Try.underlying5
  have ho := h.field Try.underlying74 3 rfl (c := 4) (l := [v3, v4, v5, v6]) (by kernel_rfl) rfl
  have hf := h.field Try.underlying74 4 rfl (c := 29) (l := [v7, v8, v9, v10, v11, v12, v13, v14, v15, v16, v17, v18, v19, v20, v21, v22, v23, v24, v25, v26, v27, v28, v29, v30, v31, v32, v33, v34, v35]) (by kernel_rfl) rfl
  have hn := h.field Try.underlying74 5 rfl (c := 3) (l := [v36, v37, v38]) (by kernel_rfl) rfl
  clear h
  obtain ⟨o, ho⟩ := opRd ho
  obtain ⟨rfl, rfl, rfl, rfl⟩ : _ ∧ _ ∧ _ ∧ _ := by simpa using ho
  obtain ⟨m0, rfl, _⟩ := (hn.item Try.underlying72 0 (by omega) (c := 1) (l := [v36]) (by kernel_rfl) rfl).int1 Try.underlying3
  obtain ⟨m1, rfl, _⟩ := (hn.item Try.underlying72 1 (by omega) (c := 1) (l := [v37]) (by kernel_rfl) rfl).int1 Try.underlying3
  obtain ⟨m2, rfl, _⟩ := (hn.item Try.underlying72 2 (by omega) (c := 1) (l := [v38]) (by kernel_rfl) rfl).int1 Try.underlying3
  obtain ⟨f, p, k, hf, hM⟩ := frmRd hf
  simp only [frmL, List.cons.injEq, and_true] at hf
  obtain ⟨rfl, rfl, rfl, rfl, rfl, rfl, rfl, rfl, rfl, rfl, rfl, rfl, rfl, rfl, rfl, rfl, rfl, rfl, rfl, rfl, rfl, rfl, rfl, rfl, rfl, rfl, rfl, rfl, rfl⟩ := hf
  exact ⟨⟨n0, n1, n2, o, f, p, k, m0, m1, m2, wf_u8 w0, wf_u8 w1, wf_u8 w2⟩, rfl, hM⟩
theorem actsKArg {W : World} {v : Value} (h : Arg Try.prog W 76 v) : ∃ (l : List ActK) (p : Option Addr) (k : Nat), v = .slice p l.length k ∧ ActKAt W p l ∧ l.length ≤ maxLen := by
  obtain ⟨p, n, k, rfl, h1, h2, hi⟩ := h.slice Try.underlying76
  obtain ⟨l, rfl, hM⟩ := elems_of (sz := 39) (by kernel_rfl) (fun _ hr => by obtain ⟨x, hx, _⟩ := actKRd hr; exact ⟨x, hx⟩) hi
  exact ⟨l, p, k, rfl, hM, by omega⟩
theorem ClientOnce_law : Law Try.prog 10 Try.f10.params.toList := by
  intro W args hlen harg
  match args, hlen with
  | [v0, v1, v2], _ =>
    obtain ⟨c, p, k, rfl, hM, hk, hk'⟩ := cfArg (harg 0 24 v0 rfl rfl)
    obtain ⟨id, rfl, hid⟩ := (harg 1 5 v1 rfl rfl).int Try.underlying5
    obtain ⟨l, pl, kl, rfl, hA, hl⟩ := actsKArg (harg 2 76 v2 rfl rfl)
    exact lawKOnce_pw hM rfl (wf_u8 hid) hA rfl hl
end Go.Proofs.Ytljipmhkpnigkaa
