/- Package master: acts that come in, each cell of them. -/
import Derived.Test.YtljipmhkpnigkaaMJ
namespace Go.Proofs.Ytljipmhkpnigkaa
open Go.Vc Go.Codec

structure ActR where
  kd : Int
  a : Int
  b : Int
  fr : Int
  v : Nat → Int
  s : Nat → ByteArray
  p : Option Addr
  n : Nat
  k : Nat
  hk : 0 ≤ kd ∧ kd ≤ 255
  ha : 0 ≤ a ∧ a ≤ 255
  hb : 0 ≤ b ∧ b ≤ 255
abbrev actL (x : ActR) : List Value := [.int .u8 x.kd, .int .u8 x.a, .int .u8 x.b, .int .i64 x.fr, .int .i64 (x.v 0), .int .i64 (x.v 1), .int .i64 (x.v 2), .int .i64 (x.v 3), .int .i64 (x.v 4), .int .i64 (x.v 5), .int .i64 (x.v 6), .int .i64 (x.v 7), .string (x.s 8), .string (x.s 9), .int .i64 (x.v 10), .int .i64 (x.v 11), .string (x.s 12), .int .i64 (x.v 13), .int .i64 (x.v 14), .int .i64 (x.v 15), .int .i64 (x.v 16), .int .i64 (x.v 17), .int .i64 (x.v 18), .int .i64 (x.v 19), .string (x.s 20), .string (x.s 21), .int .i64 (x.v 22), .int .i64 (x.v 23), .slice x.p x.n x.k, .int .i64 (x.v 25), .int .i64 (x.v 26), .int .i64 (x.v 27), .int .i64 (x.v 28)]
def ActR.toM (x : ActR) : ActM := ⟨x.kd, x.a, x.b, [.int .i64 x.fr, .int .i64 (x.v 0), .int .i64 (x.v 1), .int .i64 (x.v 2), .int .i64 (x.v 3), .int .i64 (x.v 4), .int .i64 (x.v 5), .int .i64 (x.v 6), .int .i64 (x.v 7), .string (x.s 8), .string (x.s 9), .int .i64 (x.v 10), .int .i64 (x.v 11), .string (x.s 12), .int .i64 (x.v 13), .int .i64 (x.v 14), .int .i64 (x.v 15), .int .i64 (x.v 16), .int .i64 (x.v 17), .int .i64 (x.v 18), .int .i64 (x.v 19), .string (x.s 20), .string (x.s 21), .int .i64 (x.v 22), .int .i64 (x.v 23)], x.p, x.n, x.k, [.int .i64 (x.v 25), .int .i64 (x.v 26), .int .i64 (x.v 27), .int .i64 (x.v 28)], rfl, rfl, x.hk, x.ha, x.hb⟩
abbrev ActRAt (w : World) (p : Option Addr) (l : List ActR) : Prop := ElAt actL 33 w p l
theorem ActRAt.toM {w : World} {p : Option Addr} {l : List ActR} (h : ActRAt w p l) : ActAt w p (l.map ActR.toM) := fun i hi => by
  have hi' : i < l.length := by simpa using hi
  obtain ⟨a, ha, hr⟩ := h i hi'
  refine ⟨a, ha, ?_⟩
  rw [List.getElem_map]
  exact hr
theorem strRd {w : World} {v : Value} (h : Rd Try.prog w 9 [v]) : ∃ s : ByteArray, v = .string s := by
  obtain ⟨s, hs, _⟩ := h.string Try.underlying9
  exact ⟨s, (List.cons.inj hs).1⟩
set_option maxRecDepth 100000 in
set_option maxHeartbeats 8000000 in
theorem actRRd {w : World} {cs : List Value} (h : Rd Try.prog w 55 cs) : ∃ x, cs = actL x := by
  have hl := (h.struct Try.underlying55).1
  rw [show Try.prog.cellsOf 55 = 33 by kernel_rfl] at hl
  obtain ⟨v0, c0, rfl, hl0⟩ := cons_of hl
  obtain ⟨v1, c1, rfl, hl1⟩ := cons_of hl0
  obtain ⟨v2, c2, rfl, hl2⟩ := cons_of hl1
  obtain ⟨v3, c3, rfl, hl3⟩ := cons_of hl2
  obtain ⟨v4, c4, rfl, hl4⟩ := cons_of hl3
  obtain ⟨v5, c5, rfl, hl5⟩ := cons_of hl4
  obtain ⟨v6, c6, rfl, hl6⟩ := cons_of hl5
  obtain ⟨v7, c7, rfl, hl7⟩ := cons_of hl6
  obtain ⟨v8, c8, rfl, hl8⟩ := cons_of hl7
  obtain ⟨v9, c9, rfl, hl9⟩ := cons_of hl8
  obtain ⟨v10, c10, rfl, hl10⟩ := cons_of hl9
  obtain ⟨v11, c11, rfl, hl11⟩ := cons_of hl10
  obtain ⟨v12, c12, rfl, hl12⟩ := cons_of hl11
  obtain ⟨v13, c13, rfl, hl13⟩ := cons_of hl12
  obtain ⟨v14, c14, rfl, hl14⟩ := cons_of hl13
  obtain ⟨v15, c15, rfl, hl15⟩ := cons_of hl14
  obtain ⟨v16, c16, rfl, hl16⟩ := cons_of hl15
  obtain ⟨v17, c17, rfl, hl17⟩ := cons_of hl16
  obtain ⟨v18, c18, rfl, hl18⟩ := cons_of hl17
  obtain ⟨v19, c19, rfl, hl19⟩ := cons_of hl18
  obtain ⟨v20, c20, rfl, hl20⟩ := cons_of hl19
  obtain ⟨v21, c21, rfl, hl21⟩ := cons_of hl20
  obtain ⟨v22, c22, rfl, hl22⟩ := cons_of hl21
  obtain ⟨v23, c23, rfl, hl23⟩ := cons_of hl22
  obtain ⟨v24, c24, rfl, hl24⟩ := cons_of hl23
  obtain ⟨v25, c25, rfl, hl25⟩ := cons_of hl24
  obtain ⟨v26, c26, rfl, hl26⟩ := cons_of hl25
  obtain ⟨v27, c27, rfl, hl27⟩ := cons_of hl26
  obtain ⟨v28, c28, rfl, hl28⟩ := cons_of hl27
  obtain ⟨v29, c29, rfl, hl29⟩ := cons_of hl28
  obtain ⟨v30, c30, rfl, hl30⟩ := cons_of hl29
  obtain ⟨v31, c31, rfl, hl31⟩ := cons_of hl30
  obtain ⟨v32, c32, rfl, hl32⟩ := cons_of hl31
  obtain rfl := List.length_eq_zero_iff.1 hl32
  clear hl hl0
  obtain ⟨n0, rfl, w0⟩ := (h.field Try.underlying55 0 rfl (c := 1) (l := [v0]) (by kernel_rfl) rfl).int1 Try.underlying5
  obtain ⟨n1, rfl, w1⟩ := (h.field Try.underlying55 1 rfl (c := 1) (l := [v1]) (by kernel_rfl) rfl).int1 Try.underlying5
  obtain ⟨n2, rfl, w2⟩ := (h.field Try.underlying55 2 rfl (c := 1) (l := [v2]) (by kernel_rfl) rfl).int1 Try.underlying5
  obtain ⟨n3, rfl, _⟩ := (h.field Try.underlying55 3 rfl (c := 1) (l := [v3]) (by kernel_rfl) rfl).int1 Try.underlying3
  have hF := h.field Try.underlying55 4 rfl (c := 29) (l := [v4, v5, v6, v7, v8, v9, v10, v11, v12, v13, v14, v15, v16, v17, v18, v19, v20, v21, v22, v23, v24, v25, v26, v27, v28, v29, v30, v31, v32]) (by kernel_rfl) rfl
  clear h
  obtain ⟨n4, rfl, _⟩ := (hF.field Try.underlying53 0 rfl (c := 1) (l := [v4]) (by kernel_rfl) rfl).int1 Try.underlying3
  obtain ⟨n5, rfl, _⟩ := (hF.field Try.underlying53 1 rfl (c := 1) (l := [v5]) (by kernel_rfl) rfl).int1 Try.underlying3
  obtain ⟨n6, rfl, _⟩ := (hF.field Try.underlying53 2 rfl (c := 1) (l := [v6]) (by kernel_rfl) rfl).int1 Try.underlying3
  obtain ⟨n7, rfl, _⟩ := (hF.field Try.underlying53 3 rfl (c := 1) (l := [v7]) (by kernel_rfl) rfl).int1 Try.underlying3
  obtain ⟨n8, rfl, _⟩ := (hF.field Try.underlying53 4 rfl (c := 1) (l := [v8]) (by kernel_rfl) rfl).int1 Try.underlying3
  obtain ⟨n9, rfl, _⟩ := (hF.field Try.underlying53 5 rfl (c := 1) (l := [v9]) (by kernel_rfl) rfl).int1 Try.underlying3
  obtain ⟨n10, rfl, _⟩ := (hF.field Try.underlying53 6 rfl (c := 1) (l := [v10]) (by kernel_rfl) rfl).int1 Try.underlying3
  obtain ⟨n19, rfl, _⟩ := (hF.field Try.underlying53 9 rfl (c := 1) (l := [v19]) (by kernel_rfl) rfl).int1 Try.underlying3
  obtain ⟨n30, rfl, _⟩ := (hF.field Try.underlying53 12 rfl (c := 1) (l := [v30]) (by kernel_rfl) rfl).int1 Try.underlying3
  obtain ⟨n31, rfl, _⟩ := (hF.field Try.underlying53 13 rfl (c := 1) (l := [v31]) (by kernel_rfl) rfl).int1 Try.underlying3
  obtain ⟨n32, rfl, _⟩ := (hF.field Try.underlying53 14 rfl (c := 1) (l := [v32]) (by kernel_rfl) rfl).int1 Try.underlying3
  have hs7 := (hF.field Try.underlying53 7 rfl (c := 4) (l := [v11, v12, v13, v14]) (by kernel_rfl) rfl)
  have hs8 := (hF.field Try.underlying53 8 rfl (c := 4) (l := [v15, v16, v17, v18]) (by kernel_rfl) rfl)
  have hs11 := (hF.field Try.underlying53 11 rfl (c := 3) (l := [v27, v28, v29]) (by kernel_rfl) rfl)
  have hs10 := (hF.field Try.underlying53 10 rfl (c := 7) (l := [v20, v21, v22, v23, v24, v25, v26]) (by kernel_rfl) rfl)
  clear hF
  obtain ⟨n11, rfl, _⟩ := (hs7.field Try.underlying47 0 rfl (c := 1) (l := [v11]) (by kernel_rfl) rfl).int1 Try.underlying3
  obtain ⟨s12, rfl⟩ := strRd (hs7.field Try.underlying47 1 rfl (c := 1) (l := [v12]) (by kernel_rfl) rfl)
  obtain ⟨s13, rfl⟩ := strRd (hs7.field Try.underlying47 2 rfl (c := 1) (l := [v13]) (by kernel_rfl) rfl)
  obtain ⟨n14, rfl, _⟩ := (hs7.field Try.underlying47 3 rfl (c := 1) (l := [v14]) (by kernel_rfl) rfl).int1 Try.underlying3
  obtain ⟨n15, rfl, _⟩ := (hs8.field Try.underlying49 0 rfl (c := 1) (l := [v15]) (by kernel_rfl) rfl).int1 Try.underlying3
  obtain ⟨s16, rfl⟩ := strRd (hs8.field Try.underlying49 1 rfl (c := 1) (l := [v16]) (by kernel_rfl) rfl)
  obtain ⟨n17, rfl, _⟩ := (hs8.field Try.underlying49 2 rfl (c := 1) (l := [v17]) (by kernel_rfl) rfl).int1 Try.underlying3
  obtain ⟨n18, rfl, _⟩ := (hs8.field Try.underlying49 3 rfl (c := 1) (l := [v18]) (by kernel_rfl) rfl).int1 Try.underlying3
  obtain ⟨n27, rfl, _⟩ := (hs11.field Try.underlying32 0 rfl (c := 1) (l := [v27]) (by kernel_rfl) rfl).int1 Try.underlying3
  obtain ⟨p, n, k, rfl, _⟩ := (hs11.field Try.underlying32 1 rfl (c := 1) (l := [v28]) (by kernel_rfl) rfl).slice1 Try.underlying30
  obtain ⟨n29, rfl, _⟩ := (hs11.field Try.underlying32 2 rfl (c := 1) (l := [v29]) (by kernel_rfl) rfl).int1 Try.underlying3
  obtain ⟨n20, rfl, _⟩ := (hs10.field Try.underlying51 0 rfl (c := 1) (l := [v20]) (by kernel_rfl) rfl).int1 Try.underlying3
  obtain ⟨n21, rfl, _⟩ := (hs10.field Try.underlying51 1 rfl (c := 1) (l := [v21]) (by kernel_rfl) rfl).int1 Try.underlying3
  obtain ⟨n22, rfl, _⟩ := (hs10.field Try.underlying51 2 rfl (c := 1) (l := [v22]) (by kernel_rfl) rfl).int1 Try.underlying3
  have hs11b := (hs10.field Try.underlying51 3 rfl (c := 4) (l := [v23, v24, v25, v26]) (by kernel_rfl) rfl)
  obtain ⟨n23, rfl, _⟩ := (hs11b.field Try.underlying47 0 rfl (c := 1) (l := [v23]) (by kernel_rfl) rfl).int1 Try.underlying3
  obtain ⟨s24, rfl⟩ := strRd (hs11b.field Try.underlying47 1 rfl (c := 1) (l := [v24]) (by kernel_rfl) rfl)
  obtain ⟨s25, rfl⟩ := strRd (hs11b.field Try.underlying47 2 rfl (c := 1) (l := [v25]) (by kernel_rfl) rfl)
  obtain ⟨n26, rfl, _⟩ := (hs11b.field Try.underlying47 3 rfl (c := 1) (l := [v26]) (by kernel_rfl) rfl).int1 Try.underlying3
  exact ⟨⟨n0, n1, n2, n3, fun i => [n4, n5, n6, n7, n8, n9, n10, n11, 0, 0, n14, n15, 0, n17, n18, n19, n20, n21, n22, n23, 0, 0, n26, n27, 0, n29, n30, n31, n32].getD i 0, fun i => [⟨#[]⟩, ⟨#[]⟩, ⟨#[]⟩, ⟨#[]⟩, ⟨#[]⟩, ⟨#[]⟩, ⟨#[]⟩, ⟨#[]⟩, s12, s13, ⟨#[]⟩, ⟨#[]⟩, s16, ⟨#[]⟩, ⟨#[]⟩, ⟨#[]⟩, ⟨#[]⟩, ⟨#[]⟩, ⟨#[]⟩, ⟨#[]⟩, s24, s25, ⟨#[]⟩, ⟨#[]⟩, ⟨#[]⟩, ⟨#[]⟩, ⟨#[]⟩, ⟨#[]⟩, ⟨#[]⟩].getD i ⟨#[]⟩, p, n, k, wf_u8 w0, wf_u8 w1, wf_u8 w2⟩, rfl⟩
theorem actsRArg {w : World} {v : Value} (h : Arg Try.prog w 39 v) : ∃ (l : List ActR) (p : Option Addr) (k : Nat), v = .slice p l.length k ∧ ActRAt w p l ∧ l.length ≤ maxLen := by
  obtain ⟨p, n, k, rfl, h1, h2, hi⟩ := h.slice Try.underlying39
  obtain ⟨l, rfl, hM⟩ := elems_of (sz := 33) (by kernel_rfl) (fun _ => actRRd) hi
  exact ⟨l, p, k, rfl, hM, by omega⟩
section
variable {w0 : World} {b : Nat} {c : Cfg} {cp : Option Addr} {cn ck : Nat} {m : Mst} {p : Option Addr} {k : Nat}
theorem mtakeOut_tk (h : okM m) {n : Int} (hn : m.nodes ≤ n) (kd ep ix now : Int) (hkd : kd ≠ 7) : Tk Try.prog 27 #[.pointer (some ⟨b, 0, none⟩), .int .i64 n, frA kd ep ix, .int .i64 now] [mB b c cp cn ck m p k, mR m.ch.mem p k] fun e L' => e = .returned (.slice none 0 0) ∧ L' = [mB b c cp cn ck m p k, mR m.ch.mem p k] := by
  intro w0 st
  have := h.n1
  refine mtake_ok _ _ _ _ _ _ _ _ _ _ _ _ _ _ _ _ _ _ _ _ _ _ _ _ _ _ _ _ _ _ _ _ _ _ _ _ ?_
  unfold mtake
  refine St.alloc st ?_; clear st; intro bf w st
  refine Pw.go (mnone_pw (st.hold 1 _ rfl) h) st ?_; clear st; intro w st
  refine ⟨_, rfl, Br.nay rfl ⟨_, st.cell 0 rfl rfl, Br.eqi (fun hh => absurd hh hkd) (fun _ => ?_)⟩⟩
  refine Br.dec (fun h1 => absurd h1 (by omega)) (fun _ => ⟨_, st.cell 1 rfl rfl, Br.dec (fun _ => ?_) (fun h1 => absurd hn (by omega))⟩)
  exact ⟨_, ⟨rfl, rfl⟩, st.pick [1, 2] rfl (by decide)⟩
end
end Go.Proofs.Ytljipmhkpnigkaa
