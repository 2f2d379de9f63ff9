/- Package master: Tick, in short; ticks that come in. -/
import Derived.Test.YtljipmhkpnigkaaMG
namespace Go.Proofs.Ytljipmhkpnigkaa
open Go.Vc Go.Codec

section
variable {w0 : World} {b : Nat} {c : Cfg} {cp : Option Addr} {cn ck : Nat} {m : Mst} {p : Option Addr} {k : Nat}
theorem mtick_u (h : okM m) (now : Int) : Tk Try.prog 31 #[.pointer (some ⟨b, 0, none⟩), .int .i64 now] [mB b c cp cn ck m p k, mR m.ch.mem p k] fun e L' => ∃ (q : Option Addr) (x y : Nat) (p2 : Option Addr) (k2 : Nat), e = .returned (.slice q x y) ∧ ((m.tick now).ch.epoch ≠ m.ch.epoch → (x : Int) = m.nodes) ∧ L' = [mB b c cp cn ck (m.tick now) p2 k2, mR (m.tick now).ch.mem p2 k2] := by
  intro w0 st
  refine (mtick_tk h now w0 st).mono ?_
  rintro _ w1 ⟨_, ⟨p2, k2, ⟨h1, rfl, rfl⟩ | ⟨h1, l, p', k', rfl, hl, rfl⟩⟩, st⟩
  · exact ⟨_, ⟨_, _, _, p2, k2, rfl, fun hh => absurd h1 hh, rfl⟩, st⟩
  · refine ⟨_, ⟨_, _, _, p2, k2, rfl, fun _ => ?_, rfl⟩, st.tail⟩
    have hl2 := congrArg List.length hl
    have := h.n1
    simp at hl2
    omega
end
theorem join_pat (m : Mst) (n now : Int) : (m.join n now).1.patience = m.patience := by
  unfold Mst.join
  split
  · rfl
  · split <;> rfl
theorem suspect_pat (m : Mst) (n : Int) : (m.suspect n).1.patience = m.patience ∧ (m.suspect n).1.heard = m.heard := by
  unfold Mst.suspect
  split
  · exact ⟨rfl, rfl⟩
  · exact ⟨(out_keeps m n).2.1, (out_keeps m n).2.2⟩
theorem nearT_id {n : Int} (h : 0 ≤ n ∧ n ≤ 1099511627776) : nearT n = n := by unfold nearT; omega
/-- a byte -/
abbrev U8S := { n : Int // 0 ≤ n ∧ n ≤ 255 }
abbrev tkE (x : U8S) : List Value := [.int .u8 x.1]
abbrev TkAt (w : World) (p : Option Addr) (l : List U8S) : Prop := ElAt tkE 1 w p l
theorem tkRd {w : World} {cs : List Value} (h : Rd Try.prog w 5 cs) : ∃ x, cs = tkE x := by
  obtain ⟨n, hn, w0⟩ := h.int Try.underlying5
  exact ⟨⟨n, wf_u8 w0⟩, hn⟩
theorem ticksArg {w : World} {v : Value} (h : Arg Try.prog w 40 v) : ∃ (l : List U8S) (p : Option Addr) (k : Nat), v = .slice p l.length k ∧ TkAt w p l := by
  obtain ⟨p, n, k, rfl, h1, h2, hi⟩ := h.slice Try.underlying40
  obtain ⟨l, rfl, hM⟩ := elems_of (sz := 1) (by kernel_rfl) (fun _ => tkRd) hi
  exact ⟨l, p, k, rfl, hM⟩
end Go.Proofs.Ytljipmhkpnigkaa
