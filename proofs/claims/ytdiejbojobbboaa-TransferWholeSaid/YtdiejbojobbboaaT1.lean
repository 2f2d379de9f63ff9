/- Package transfer, and the document's answer for it: the contracts of senders. -/
import Derived.Test.YtdiejbojobbboaaDT
import Derived.Test.YtdiejbojobbboaaBY
import Derived.Test.YtdiejbojobbboaaTP
namespace Go.Proofs.Ytdiejbojobbboaa
open Go.Vc Go.Tr

structure Snd where
  id : Int
  size : Nat
  text : List UInt8
  window : Int
  got : Nat
  sent : Nat
deriving DecidableEq
def Snd.total (s : Snd) : Nat := cnt s.size s.text.length
structure okN (s : Snd) : Prop where
  id : 1 ≤ s.id ∧ s.id ≤ 1099511627776
  size : 1 ≤ s.size ∧ s.size ≤ 512
  win : 1 ≤ s.window ∧ s.window ≤ 16
  got : s.got ≤ s.total
  sent : s.sent ≤ s.total
  ahead : s.got ≤ s.sent
  len : s.text.length ≤ 1000
theorem okN.few {s : Snd} (h : okN s) : s.total ≤ 1001 := by
  have := cnt_le s.size s.text.length
  have h1 : s.text.length / s.size ≤ s.text.length := Nat.div_le_self _ _
  have h2 := h.len
  have e : s.total = cnt s.size s.text.length := rfl
  generalize s.text.length / s.size = q at *
  omega
structure Pc where
  id : Int
  at_ : Int
  total : Int
  data : List UInt8
deriving DecidableEq
def Pc.none : Pc := ⟨0, 0, 0, []⟩
abbrev pcE (p : Pc) : List Value := [.int .i64 p.id, .int .i64 p.at_, .int .i64 p.total, .string (mk p.data)]
abbrev pcV (p : Pc) : Value := .agg #[.int .i64 p.id, .int .i64 p.at_, .int .i64 p.total, .string (mk p.data)]
theorem pcE_len (p : Pc) : (pcE p).length = 4 := rfl
theorem pcE_plain (p : Pc) : ∀ u ∈ pcE p, notAgg u = true := by simp [pcE, notAgg]
abbrev sndL (s : Snd) (pp : Option Addr) (kk : Nat) : List Value := [.int .i64 s.id, .slice pp s.total kk, .int .i64 s.window, .int .i64 (s.got : Int), .int .i64 (s.sent : Int)]
abbrev sndA (b : Nat) (s : Snd) (pp : Option Addr) (kk : Nat) : Atom := .blk b 64 (sndL s pp kk)
abbrev sndR (s : Snd) (pp : Option Addr) (kk : Nat) : Atom := .row 0 9 1 (.slice pp s.total kk) s.total (cellsOf strE (pieces s.size s.text))
def canN (s : Snd) : Prop := (s.sent : Int) < min (s.total : Int) (s.got + s.window)
instance (s : Snd) : Decidable (canN s) := inferInstanceAs (Decidable (_ < _))
/-- the piece of a number -/
def pcN (s : Snd) (i : Nat) : Pc := ⟨s.id, i, s.total, pieceOf s.size s.text i⟩
def nextN (s : Snd) : Snd := if canN s then ⟨s.id, s.size, s.text, s.window, s.got, s.sent + 1⟩ else s
def outN (s : Snd) : Pc := if canN s then pcN s s.sent else .none
def ackN (s : Snd) (id have_ : Int) : Snd × Int :=
  if id ≠ s.id then (s, 71) else if have_ < 0 ∨ (s.total : Int) < have_ then (s, 2) else (⟨s.id, s.size, s.text, s.window, max s.got have_.toNat, max s.sent (max s.got have_.toNat)⟩, 0)
def backN (s : Snd) : Snd := ⟨s.id, s.size, s.text, s.window, s.got, s.got⟩
theorem nextN_ok {s : Snd} (h : okN s) : okN (nextN s) := by
  unfold nextN
  split
  · rename_i hc
    unfold canN at hc
    exact ⟨h.id, h.size, h.win, h.got, by show s.sent + 1 ≤ s.total; omega, by have := h.ahead; show s.got ≤ s.sent + 1; omega, h.len⟩
  · exact h
theorem ackN_ok {s : Snd} (h : okN s) (id have_ : Int) : okN (ackN s id have_).1 := by
  unfold ackN
  split
  · exact h
  · split
    · exact h
    · have h1 := h.got
      have h2 := h.sent
      have e : ∀ a b, (⟨s.id, s.size, s.text, s.window, a, b⟩ : Snd).total = s.total := fun _ _ => rfl
      exact ⟨h.id, h.size, h.win, by rw [e]; show max s.got have_.toNat ≤ _; omega, by rw [e]; show max s.sent (max s.got have_.toNat) ≤ _; omega, by show max s.got have_.toNat ≤ max s.sent (max s.got have_.toNat); omega, h.len⟩
theorem backN_ok {s : Snd} (h : okN s) : okN (backN s) := ⟨h.id, h.size, h.win, h.got, h.got, Nat.le_refl _, h.len⟩

def inB (n lo hi : Int) : Prop := lo ≤ n ∧ n ≤ hi
instance (n lo hi : Int) : Decidable (inB n lo hi) := inferInstanceAs (Decidable (_ ∧ _))
theorem within_pu (n lo hi : Int) : Pu Try.prog 20 #[.int .i64 n, .int .i64 lo, .int .i64 hi] (.bool (decide (inB n lo hi))) := by
  intro w0
  have st : St No w0 w0 [] := St.start w0
  refine within_ok _ _ _ _ _ ?_
  unfold within
  repeat' first
    | (with_reducible refine St.alloc st ?_; (try clear st); intro b w st)
    | with_reducible refine sz_and (by (repeat rw [ByteArray.size_append]); omega) ?_
    | (with_reducible apply ex0c; case h => first | exact St.cell st 0 rfl rfl | exact St.cell st 1 rfl rfl | exact St.cell st 2 rfl rfl | exact St.cell st 3 rfl rfl | fail)
    | (with_reducible apply ex1c; case h => first | exact St.cell st 0 rfl rfl | exact St.cell st 1 rfl rfl | exact St.cell st 2 rfl rfl | exact St.cell st 3 rfl rfl | fail)
    | (with_reducible apply ex3c; case h => first | exact St.cell st 0 rfl rfl | exact St.cell st 1 rfl rfl | exact St.cell st 2 rfl rfl | exact St.cell st 3 rfl rfl | fail)
    | (with_reducible apply ex0r; case h => first | exact St.rows st 0 rfl | exact St.rows st 1 rfl | exact St.rows st 2 rfl | exact St.rows st 3 rfl | fail)
    | (with_reducible apply exr2; case h => first | exact St.rows st 0 rfl | exact St.rows st 1 rfl | exact St.rows st 2 rfl | exact St.rows st 3 rfl | fail)
    | (with_reducible apply exr3; case h => first | exact St.rows st 0 rfl | exact St.rows st 1 rfl | exact St.rows st 2 rfl | exact St.rows st 3 rfl | fail)
    | (with_reducible apply exr4; case h => first | exact St.rows st 0 rfl | exact St.rows st 1 rfl | exact St.rows st 2 rfl | exact St.rows st 3 rfl | fail)
    | (with_reducible apply exr5; case h => first | exact St.rows st 0 rfl | exact St.rows st 1 rfl | exact St.rows st 2 rfl | exact St.rows st 3 rfl | fail)
    | (with_reducible apply exr6; case h => first | exact St.rows st 0 rfl | exact St.rows st 1 rfl | exact St.rows st 2 rfl | exact St.rows st 3 rfl | fail)
    | (with_reducible apply exWr; case h => first | exact St.wr st 0 rfl rfl | exact St.wr st 1 rfl rfl | exact St.wr st 2 rfl rfl | exact St.wr st 3 rfl rfl | fail)
    | (with_reducible apply exWrRow; case h => first | exact St.wrRow st 0 rfl rfl rfl | exact St.wrRow st 1 rfl rfl rfl | exact St.wrRow st 2 rfl rfl rfl | exact St.wrRow st 3 rfl rfl rfl | fail)
    | (with_reducible refine LetW.cell ?_; (first | refine St.store st 0 rfl ?_ | refine St.store st 1 rfl ?_ | refine St.store st 2 rfl ?_ | refine St.store st 3 rfl ?_ | fail); (try clear st); intro w st; simp only [List.set] at st)
    | (with_reducible refine LetW.rows ?_; (first | refine St.storeRow st 0 rfl ?_ | refine St.storeRow st 1 rfl ?_ | refine St.storeRow st 2 rfl ?_ | refine St.storeRow st 3 rfl ?_ | fail); (try clear st); intro w st; simp only [List.set, setsL] at st)
    | ((with_reducible apply exr4); case h => first | exact St.rowAt st 0 rfl rfl | exact St.rowAt st 1 rfl rfl | exact St.rowAt st 2 rfl rfl | exact St.rowAt st 3 rfl rfl | fail)
    | ((with_reducible apply exr5); case h => first | exact St.rowAt st 0 rfl rfl | exact St.rowAt st 1 rfl rfl | exact St.rowAt st 2 rfl rfl | exact St.rowAt st 3 rfl rfl | fail)
    | ((with_reducible apply exr6); case h => first | exact St.rowAt st 0 rfl rfl | exact St.rowAt st 1 rfl rfl | exact St.rowAt st 2 rfl rfl | exact St.rowAt st 3 rfl rfl | fail)
    | with_reducible refine LetI.id (by omega) (by omega) ?_
    | with_reducible refine Br.dec (fun h => ?_) (fun h => ?_)
    | with_reducible refine Br.eqi (fun h => ?_) (fun h => ?_)
    | with_reducible refine Br.nei (fun h => ?_) (fun h => ?_)
    | with_reducible refine Br.eqs' (fun h => ?_) (fun h => ?_)
    | with_reducible refine Br.eqs (fun h => ?_) (fun h => ?_)
    | with_reducible refine Br.not ?_
    | with_reducible refine Br.and_ ?_
    | with_reducible refine Br.sure rfl ?_
    | with_reducible refine Br.nay rfl ?_
    | with_reducible refine Br.eqb (fun h => ?_) (fun h => ?_)
    | with_reducible refine Br.bool (fun h => ?_) (fun h => ?_)
    | fail
  all_goals refine ⟨congrArg (fun b => Ending.returned (Value.bool b)) ?_, st.kp⟩
  · exact Bool.eq_iff_iff.2 ⟨fun h' => decide_eq_true ⟨h, of_decide_eq_true h'⟩, fun h' => decide_eq_true (of_decide_eq_true h').2⟩
  · exact (decide_eq_false fun hh => h hh.1).symm
theorem snone_tu (b : Nat) (s : Snd) (pp : Option Addr) (kk : Nat) (hs : okN s) : Tu Try.prog 21 #[.pointer (some ⟨b, 0, none⟩)] (sndA b s pp kk) (sndA b s pp kk) (.bool false) := by
  have := hs.id
  refine St.tu fun w0 st => ?_
  refine snone_ok _ _ _ ?_
  unfold snone
  repeat' first
    | (with_reducible refine St.alloc st ?_; (try clear st); intro b w st)
    | with_reducible refine sz_and (by (repeat rw [ByteArray.size_append]); omega) ?_
    | (with_reducible apply ex0c; case h => first | exact St.cell st 0 rfl rfl | exact St.cell st 1 rfl rfl | exact St.cell st 2 rfl rfl | exact St.cell st 3 rfl rfl | fail)
    | (with_reducible apply ex1c; case h => first | exact St.cell st 0 rfl rfl | exact St.cell st 1 rfl rfl | exact St.cell st 2 rfl rfl | exact St.cell st 3 rfl rfl | fail)
    | (with_reducible apply ex3c; case h => first | exact St.cell st 0 rfl rfl | exact St.cell st 1 rfl rfl | exact St.cell st 2 rfl rfl | exact St.cell st 3 rfl rfl | fail)
    | (with_reducible apply ex0r; case h => first | exact St.rows st 0 rfl | exact St.rows st 1 rfl | exact St.rows st 2 rfl | exact St.rows st 3 rfl | fail)
    | (with_reducible apply exr2; case h => first | exact St.rows st 0 rfl | exact St.rows st 1 rfl | exact St.rows st 2 rfl | exact St.rows st 3 rfl | fail)
    | (with_reducible apply exr3; case h => first | exact St.rows st 0 rfl | exact St.rows st 1 rfl | exact St.rows st 2 rfl | exact St.rows st 3 rfl | fail)
    | (with_reducible apply exr4; case h => first | exact St.rows st 0 rfl | exact St.rows st 1 rfl | exact St.rows st 2 rfl | exact St.rows st 3 rfl | fail)
    | (with_reducible apply exr5; case h => first | exact St.rows st 0 rfl | exact St.rows st 1 rfl | exact St.rows st 2 rfl | exact St.rows st 3 rfl | fail)
    | (with_reducible apply exr6; case h => first | exact St.rows st 0 rfl | exact St.rows st 1 rfl | exact St.rows st 2 rfl | exact St.rows st 3 rfl | fail)
    | (with_reducible apply exWr; case h => first | exact St.wr st 0 rfl rfl | exact St.wr st 1 rfl rfl | exact St.wr st 2 rfl rfl | exact St.wr st 3 rfl rfl | fail)
    | (with_reducible apply exWrRow; case h => first | exact St.wrRow st 0 rfl rfl rfl | exact St.wrRow st 1 rfl rfl rfl | exact St.wrRow st 2 rfl rfl rfl | exact St.wrRow st 3 rfl rfl rfl | fail)
    | (with_reducible refine LetW.cell ?_; (first | refine St.store st 0 rfl ?_ | refine St.store st 1 rfl ?_ | refine St.store st 2 rfl ?_ | refine St.store st 3 rfl ?_ | fail); (try clear st); intro w st; simp only [List.set] at st)
    | (with_reducible refine LetW.rows ?_; (first | refine St.storeRow st 0 rfl ?_ | refine St.storeRow st 1 rfl ?_ | refine St.storeRow st 2 rfl ?_ | refine St.storeRow st 3 rfl ?_ | fail); (try clear st); intro w st; simp only [List.set, setsL] at st)
    | ((with_reducible apply exr4); case h => first | exact St.rowAt st 0 rfl rfl | exact St.rowAt st 1 rfl rfl | exact St.rowAt st 2 rfl rfl | exact St.rowAt st 3 rfl rfl | fail)
    | ((with_reducible apply exr5); case h => first | exact St.rowAt st 0 rfl rfl | exact St.rowAt st 1 rfl rfl | exact St.rowAt st 2 rfl rfl | exact St.rowAt st 3 rfl rfl | fail)
    | ((with_reducible apply exr6); case h => first | exact St.rowAt st 0 rfl rfl | exact St.rowAt st 1 rfl rfl | exact St.rowAt st 2 rfl rfl | exact St.rowAt st 3 rfl rfl | fail)
    | with_reducible refine LetI.id (by omega) (by omega) ?_
    | exact absurd h (by omega)
    | (exfalso; omega)
    | with_reducible refine Br.dec (fun h => ?_) (fun h => ?_)
    | with_reducible refine Br.eqi (fun h => ?_) (fun h => ?_)
    | with_reducible refine Br.nei (fun h => ?_) (fun h => ?_)
    | with_reducible refine Br.eqs' (fun h => ?_) (fun h => ?_)
    | with_reducible refine Br.eqs (fun h => ?_) (fun h => ?_)
    | with_reducible refine Br.not ?_
    | with_reducible refine Br.and_ ?_
    | with_reducible refine Br.sure rfl ?_
    | with_reducible refine Br.nay rfl ?_
    | with_reducible refine Br.eqb (fun h => ?_) (fun h => ?_)
    | with_reducible refine Br.bool (fun h => ?_) (fun h => ?_)
    | fail
  all_goals first
    | exact ⟨rfl, st⟩
    | (refine ⟨?_, st⟩; rw [show (s.id == 0) = false by rw [beq_eq_false_iff_ne]; omega])
theorem snext_tr (b : Nat) (s : Snd) (pp : Option Addr) (kk : Nat) (hs : okN s) : Tr Try.prog 9 #[.pointer (some ⟨b, 0, none⟩)] (sndA b s pp kk) (sndA b (nextN s) pp kk) (sndR s pp kk) (.tuple #[pcV (outN s), .bool (decide (canN s))]) := by
  intro w0 hA hB hd
  have st := St.start1 hA fun _ hg => hg
  have hf := hs.few
  have h1 := hs.win
  have h2 := hs.got
  have h3 := hs.sent
  have e : (nextN s).total = s.total := by unfold nextN; split <;> rfl
  refine snext_ok _ _ _ ?_
  unfold snext
  refine St.alloc st ?_; clear st; intro br w st
  repeat' first
    | (with_reducible refine St.alloc st ?_; (try clear st); intro b w st)
    | with_reducible refine sz_and (by (repeat rw [ByteArray.size_append]); omega) ?_
    | (refine Tu.go (snone_tu _ s pp kk hs) st 0 rfl (fun _ hg => hg) ?_; (try clear st); intro w st; simp only [List.set] at st; refine ⟨_, rfl, ?_⟩)
    | (refine Tu.go (snone_tu _ s pp kk hs) st 1 rfl (fun _ hg => hg) ?_; (try clear st); intro w st; simp only [List.set] at st; refine ⟨_, rfl, ?_⟩)
    | (refine Tu.go (snone_tu _ s pp kk hs) st 2 rfl (fun _ hg => hg) ?_; (try clear st); intro w st; simp only [List.set] at st; refine ⟨_, rfl, ?_⟩)
    | (refine Tu.go (snone_tu _ s pp kk hs) st 3 rfl (fun _ hg => hg) ?_; (try clear st); intro w st; simp only [List.set] at st; refine ⟨_, rfl, ?_⟩)
    | (with_reducible apply ex0c; case h => first | exact St.cell st 0 rfl rfl | exact St.cell st 1 rfl rfl | exact St.cell st 2 rfl rfl | exact St.cell st 3 rfl rfl | fail)
    | (with_reducible apply ex1c; case h => first | exact St.cell st 0 rfl rfl | exact St.cell st 1 rfl rfl | exact St.cell st 2 rfl rfl | exact St.cell st 3 rfl rfl | fail)
    | (with_reducible apply ex3c; case h => first | exact St.cell st 0 rfl rfl | exact St.cell st 1 rfl rfl | exact St.cell st 2 rfl rfl | exact St.cell st 3 rfl rfl | fail)
    | (with_reducible apply ex0r; case h => first | exact St.rows st 0 rfl | exact St.rows st 1 rfl | exact St.rows st 2 rfl | exact St.rows st 3 rfl | fail)
    | (with_reducible apply exr2; case h => first | exact St.rows st 0 rfl | exact St.rows st 1 rfl | exact St.rows st 2 rfl | exact St.rows st 3 rfl | fail)
    | (with_reducible apply exr3; case h => first | exact St.rows st 0 rfl | exact St.rows st 1 rfl | exact St.rows st 2 rfl | exact St.rows st 3 rfl | fail)
    | (with_reducible apply exr4; case h => first | exact St.rows st 0 rfl | exact St.rows st 1 rfl | exact St.rows st 2 rfl | exact St.rows st 3 rfl | fail)
    | (with_reducible apply exr5; case h => first | exact St.rows st 0 rfl | exact St.rows st 1 rfl | exact St.rows st 2 rfl | exact St.rows st 3 rfl | fail)
    | (with_reducible apply exr6; case h => first | exact St.rows st 0 rfl | exact St.rows st 1 rfl | exact St.rows st 2 rfl | exact St.rows st 3 rfl | fail)
    | (with_reducible apply exWr; case h => first | exact St.wr st 0 rfl rfl | exact St.wr st 1 rfl rfl | exact St.wr st 2 rfl rfl | exact St.wr st 3 rfl rfl | fail)
    | (with_reducible apply exWrRow; case h => first | exact St.wrRow st 0 rfl rfl rfl | exact St.wrRow st 1 rfl rfl rfl | exact St.wrRow st 2 rfl rfl rfl | exact St.wrRow st 3 rfl rfl rfl | fail)
    | (with_reducible refine LetW.cell ?_; (first | refine St.store st 0 rfl ?_ | refine St.store st 1 rfl ?_ | refine St.store st 2 rfl ?_ | refine St.store st 3 rfl ?_ | fail); (try clear st); intro w st; simp only [List.set] at st)
    | (with_reducible refine LetW.rows ?_; (first | refine St.storeRow st 0 rfl ?_ | refine St.storeRow st 1 rfl ?_ | refine St.storeRow st 2 rfl ?_ | refine St.storeRow st 3 rfl ?_ | fail); (try clear st); intro w st; simp only [List.set, setsL] at st)
    | ((with_reducible apply exr4); case h => first | exact St.rowAt st 0 rfl rfl | exact St.rowAt st 1 rfl rfl | exact St.rowAt st 2 rfl rfl | exact St.rowAt st 3 rfl rfl | fail)
    | ((with_reducible apply exr5); case h => first | exact St.rowAt st 0 rfl rfl | exact St.rowAt st 1 rfl rfl | exact St.rowAt st 2 rfl rfl | exact St.rowAt st 3 rfl rfl | fail)
    | ((with_reducible apply exr6); case h => first | exact St.rowAt st 0 rfl rfl | exact St.rowAt st 1 rfl rfl | exact St.rowAt st 2 rfl rfl | exact St.rowAt st 3 rfl rfl | fail)
    | with_reducible refine LetI.id (by omega) (by omega) ?_
    | fail
  refine Br.nay rfl ?_
  repeat' first
    | (with_reducible refine St.alloc st ?_; (try clear st); intro b w st)
    | with_reducible refine sz_and (by (repeat rw [ByteArray.size_append]); omega) ?_
    | (with_reducible apply ex0c; case h => first | exact St.cell st 0 rfl rfl | exact St.cell st 1 rfl rfl | exact St.cell st 2 rfl rfl | exact St.cell st 3 rfl rfl | fail)
    | (with_reducible apply ex1c; case h => first | exact St.cell st 0 rfl rfl | exact St.cell st 1 rfl rfl | exact St.cell st 2 rfl rfl | exact St.cell st 3 rfl rfl | fail)
    | (with_reducible apply ex3c; case h => first | exact St.cell st 0 rfl rfl | exact St.cell st 1 rfl rfl | exact St.cell st 2 rfl rfl | exact St.cell st 3 rfl rfl | fail)
    | (with_reducible apply ex0r; case h => first | exact St.rows st 0 rfl | exact St.rows st 1 rfl | exact St.rows st 2 rfl | exact St.rows st 3 rfl | fail)
    | (with_reducible apply exr2; case h => first | exact St.rows st 0 rfl | exact St.rows st 1 rfl | exact St.rows st 2 rfl | exact St.rows st 3 rfl | fail)
    | (with_reducible apply exr3; case h => first | exact St.rows st 0 rfl | exact St.rows st 1 rfl | exact St.rows st 2 rfl | exact St.rows st 3 rfl | fail)
    | (with_reducible apply exr4; case h => first | exact St.rows st 0 rfl | exact St.rows st 1 rfl | exact St.rows st 2 rfl | exact St.rows st 3 rfl | fail)
    | (with_reducible apply exr5; case h => first | exact St.rows st 0 rfl | exact St.rows st 1 rfl | exact St.rows st 2 rfl | exact St.rows st 3 rfl | fail)
    | (with_reducible apply exr6; case h => first | exact St.rows st 0 rfl | exact St.rows st 1 rfl | exact St.rows st 2 rfl | exact St.rows st 3 rfl | fail)
    | (with_reducible apply exWr; case h => first | exact St.wr st 0 rfl rfl | exact St.wr st 1 rfl rfl | exact St.wr st 2 rfl rfl | exact St.wr st 3 rfl rfl | fail)
    | (with_reducible apply exWrRow; case h => first | exact St.wrRow st 0 rfl rfl rfl | exact St.wrRow st 1 rfl rfl rfl | exact St.wrRow st 2 rfl rfl rfl | exact St.wrRow st 3 rfl rfl rfl | fail)
    | (with_reducible refine LetW.cell ?_; (first | refine St.store st 0 rfl ?_ | refine St.store st 1 rfl ?_ | refine St.store st 2 rfl ?_ | refine St.store st 3 rfl ?_ | fail); (try clear st); intro w st; simp only [List.set] at st)
    | (with_reducible refine LetW.rows ?_; (first | refine St.storeRow st 0 rfl ?_ | refine St.storeRow st 1 rfl ?_ | refine St.storeRow st 2 rfl ?_ | refine St.storeRow st 3 rfl ?_ | fail); (try clear st); intro w st; simp only [List.set, setsL] at st)
    | ((with_reducible apply exr4); case h => first | exact St.rowAt st 0 rfl rfl | exact St.rowAt st 1 rfl rfl | exact St.rowAt st 2 rfl rfl | exact St.rowAt st 3 rfl rfl | fail)
    | ((with_reducible apply exr5); case h => first | exact St.rowAt st 0 rfl rfl | exact St.rowAt st 1 rfl rfl | exact St.rowAt st 2 rfl rfl | exact St.rowAt st 3 rfl rfl | fail)
    | ((with_reducible apply exr6); case h => first | exact St.rowAt st 0 rfl rfl | exact St.rowAt st 1 rfl rfl | exact St.rowAt st 2 rfl rfl | exact St.rowAt st 3 rfl rfl | fail)
    | with_reducible refine LetI.id (by omega) (by omega) ?_
    | fail
  refine LetI.of ?_
  refine Br.dec (fun h => ?_) (fun h => ?_)
  · have hc : ¬ canN s := by unfold canN; omega
    repeat' first
      | (with_reducible refine St.alloc st ?_; (try clear st); intro b w st)
      | with_reducible refine sz_and (by (repeat rw [ByteArray.size_append]); omega) ?_
      | (with_reducible apply ex0c; case h => first | exact St.cell st 0 rfl rfl | exact St.cell st 1 rfl rfl | exact St.cell st 2 rfl rfl | exact St.cell st 3 rfl rfl | fail)
      | (with_reducible apply ex1c; case h => first | exact St.cell st 0 rfl rfl | exact St.cell st 1 rfl rfl | exact St.cell st 2 rfl rfl | exact St.cell st 3 rfl rfl | fail)
      | (with_reducible apply ex3c; case h => first | exact St.cell st 0 rfl rfl | exact St.cell st 1 rfl rfl | exact St.cell st 2 rfl rfl | exact St.cell st 3 rfl rfl | fail)
      | (with_reducible apply ex0r; case h => first | exact St.rows st 0 rfl | exact St.rows st 1 rfl | exact St.rows st 2 rfl | exact St.rows st 3 rfl | fail)
      | (with_reducible apply exr2; case h => first | exact St.rows st 0 rfl | exact St.rows st 1 rfl | exact St.rows st 2 rfl | exact St.rows st 3 rfl | fail)
      | (with_reducible apply exr3; case h => first | exact St.rows st 0 rfl | exact St.rows st 1 rfl | exact St.rows st 2 rfl | exact St.rows st 3 rfl | fail)
      | (with_reducible apply exr4; case h => first | exact St.rows st 0 rfl | exact St.rows st 1 rfl | exact St.rows st 2 rfl | exact St.rows st 3 rfl | fail)
      | (with_reducible apply exr5; case h => first | exact St.rows st 0 rfl | exact St.rows st 1 rfl | exact St.rows st 2 rfl | exact St.rows st 3 rfl | fail)
      | (with_reducible apply exr6; case h => first | exact St.rows st 0 rfl | exact St.rows st 1 rfl | exact St.rows st 2 rfl | exact St.rows st 3 rfl | fail)
      | (with_reducible apply exWr; case h => first | exact St.wr st 0 rfl rfl | exact St.wr st 1 rfl rfl | exact St.wr st 2 rfl rfl | exact St.wr st 3 rfl rfl | fail)
      | (with_reducible apply exWrRow; case h => first | exact St.wrRow st 0 rfl rfl rfl | exact St.wrRow st 1 rfl rfl rfl | exact St.wrRow st 2 rfl rfl rfl | exact St.wrRow st 3 rfl rfl rfl | fail)
      | (with_reducible refine LetW.cell ?_; (first | refine St.store st 0 rfl ?_ | refine St.store st 1 rfl ?_ | refine St.store st 2 rfl ?_ | refine St.store st 3 rfl ?_ | fail); (try clear st); intro w st; simp only [List.set] at st)
      | (with_reducible refine LetW.rows ?_; (first | refine St.storeRow st 0 rfl ?_ | refine St.storeRow st 1 rfl ?_ | refine St.storeRow st 2 rfl ?_ | refine St.storeRow st 3 rfl ?_ | fail); (try clear st); intro w st; simp only [List.set, setsL] at st)
      | ((with_reducible apply exr4); case h => first | exact St.rowAt st 0 rfl rfl | exact St.rowAt st 1 rfl rfl | exact St.rowAt st 2 rfl rfl | exact St.rowAt st 3 rfl rfl | fail)
      | ((with_reducible apply exr5); case h => first | exact St.rowAt st 0 rfl rfl | exact St.rowAt st 1 rfl rfl | exact St.rowAt st 2 rfl rfl | exact St.rowAt st 3 rfl rfl | fail)
      | ((with_reducible apply exr6); case h => first | exact St.rowAt st 0 rfl rfl | exact St.rowAt st 1 rfl rfl | exact St.rowAt st 2 rfl rfl | exact St.rowAt st 3 rfl rfl | fail)
      | with_reducible refine LetI.id (by omega) (by omega) ?_
      | fail
    rw [show nextN s = s by unfold nextN; rw [if_neg hc], show outN s = .none by unfold outN; rw [if_neg hc], decide_eq_false hc]
    exact ⟨rfl, st.hold 1 _ rfl, st.kp⟩
  · have hc : canN s := by unfold canN; omega
    have hlt : s.sent < s.total := by omega
    repeat' first
      | (with_reducible refine St.alloc st ?_; (try clear st); intro b w st)
      | with_reducible refine sz_and (by (repeat rw [ByteArray.size_append]); omega) ?_
      | (with_reducible apply ex0c; case h => first | exact St.cell st 0 rfl rfl | exact St.cell st 1 rfl rfl | exact St.cell st 2 rfl rfl | exact St.cell st 3 rfl rfl | fail)
      | (with_reducible apply ex1c; case h => first | exact St.cell st 0 rfl rfl | exact St.cell st 1 rfl rfl | exact St.cell st 2 rfl rfl | exact St.cell st 3 rfl rfl | fail)
      | (with_reducible apply ex3c; case h => first | exact St.cell st 0 rfl rfl | exact St.cell st 1 rfl rfl | exact St.cell st 2 rfl rfl | exact St.cell st 3 rfl rfl | fail)
      | (with_reducible apply ex0r; case h => first | exact St.rows st 0 rfl | exact St.rows st 1 rfl | exact St.rows st 2 rfl | exact St.rows st 3 rfl | fail)
      | (with_reducible apply exr2; case h => first | exact St.rows st 0 rfl | exact St.rows st 1 rfl | exact St.rows st 2 rfl | exact St.rows st 3 rfl | fail)
      | (with_reducible apply exr3; case h => first | exact St.rows st 0 rfl | exact St.rows st 1 rfl | exact St.rows st 2 rfl | exact St.rows st 3 rfl | fail)
      | (with_reducible apply exr4; case h => first | exact St.rows st 0 rfl | exact St.rows st 1 rfl | exact St.rows st 2 rfl | exact St.rows st 3 rfl | fail)
      | (with_reducible apply exr5; case h => first | exact St.rows st 0 rfl | exact St.rows st 1 rfl | exact St.rows st 2 rfl | exact St.rows st 3 rfl | fail)
      | (with_reducible apply exr6; case h => first | exact St.rows st 0 rfl | exact St.rows st 1 rfl | exact St.rows st 2 rfl | exact St.rows st 3 rfl | fail)
      | (with_reducible apply exWr; case h => first | exact St.wr st 0 rfl rfl | exact St.wr st 1 rfl rfl | exact St.wr st 2 rfl rfl | exact St.wr st 3 rfl rfl | fail)
      | (with_reducible apply exWrRow; case h => first | exact St.wrRow st 0 rfl rfl rfl | exact St.wrRow st 1 rfl rfl rfl | exact St.wrRow st 2 rfl rfl rfl | exact St.wrRow st 3 rfl rfl rfl | fail)
      | (with_reducible refine LetW.cell ?_; (first | refine St.store st 0 rfl ?_ | refine St.store st 1 rfl ?_ | refine St.store st 2 rfl ?_ | refine St.store st 3 rfl ?_ | fail); (try clear st); intro w st; simp only [List.set] at st)
      | (with_reducible refine LetW.rows ?_; (first | refine St.storeRow st 0 rfl ?_ | refine St.storeRow st 1 rfl ?_ | refine St.storeRow st 2 rfl ?_ | refine St.storeRow st 3 rfl ?_ | fail); (try clear st); intro w st; simp only [List.set, setsL] at st)
      | ((with_reducible apply exr4); case h => first | exact St.rowAt st 0 rfl rfl | exact St.rowAt st 1 rfl rfl | exact St.rowAt st 2 rfl rfl | exact St.rowAt st 3 rfl rfl | fail)
      | ((with_reducible apply exr5); case h => first | exact St.rowAt st 0 rfl rfl | exact St.rowAt st 1 rfl rfl | exact St.rowAt st 2 rfl rfl | exact St.rowAt st 3 rfl rfl | fail)
      | ((with_reducible apply exr6); case h => first | exact St.rowAt st 0 rfl rfl | exact St.rowAt st 1 rfl rfl | exact St.rowAt st 2 rfl rfl | exact St.rowAt st 3 rfl rfl | fail)
      | with_reducible refine LetI.id (by omega) (by omega) ?_
      | fail
    have hR : (sndR s pp kk).p w := (sndR s pp kk).stable st.kp (fun g hb ha => hd g ha hb) hB
    obtain ⟨a, rfl, hr⟩ := ElAt.of_owns strE_len hR (pieces_len _ _).symm s.sent (by rw [pieces_len]; exact hlt)
    have hcell := Row.get hr (j := 0) rfl
    have hp : (pieces s.size s.text)[s.sent]'(by rw [pieces_len]; exact hlt) = pieceOf s.size s.text s.sent := by
      have := pieces_at (size := s.size) (l := s.text) hlt
      rw [List.getElem?_eq_getElem (by rw [pieces_len]; exact hlt)] at this
      exact Option.some.inj this
    rw [Nat.zero_add, addr_zero, hp] at hcell
    have e2 : ((s.sent : Int) + 1 - 1).toNat = s.sent := by omega
    refine NilOk.intro rfl ⟨⟨by omega, by omega⟩, _, by rw [e2]; exact hcell, ?_⟩
    repeat' first
      | (with_reducible refine St.alloc st ?_; (try clear st); intro b w st)
      | with_reducible refine sz_and (by (repeat rw [ByteArray.size_append]); omega) ?_
      | (with_reducible apply ex0c; case h => first | exact St.cell st 0 rfl rfl | exact St.cell st 1 rfl rfl | exact St.cell st 2 rfl rfl | exact St.cell st 3 rfl rfl | fail)
      | (with_reducible apply ex1c; case h => first | exact St.cell st 0 rfl rfl | exact St.cell st 1 rfl rfl | exact St.cell st 2 rfl rfl | exact St.cell st 3 rfl rfl | fail)
      | (with_reducible apply ex3c; case h => first | exact St.cell st 0 rfl rfl | exact St.cell st 1 rfl rfl | exact St.cell st 2 rfl rfl | exact St.cell st 3 rfl rfl | fail)
      | (with_reducible apply ex0r; case h => first | exact St.rows st 0 rfl | exact St.rows st 1 rfl | exact St.rows st 2 rfl | exact St.rows st 3 rfl | fail)
      | (with_reducible apply exr2; case h => first | exact St.rows st 0 rfl | exact St.rows st 1 rfl | exact St.rows st 2 rfl | exact St.rows st 3 rfl | fail)
      | (with_reducible apply exr3; case h => first | exact St.rows st 0 rfl | exact St.rows st 1 rfl | exact St.rows st 2 rfl | exact St.rows st 3 rfl | fail)
      | (with_reducible apply exr4; case h => first | exact St.rows st 0 rfl | exact St.rows st 1 rfl | exact St.rows st 2 rfl | exact St.rows st 3 rfl | fail)
      | (with_reducible apply exr5; case h => first | exact St.rows st 0 rfl | exact St.rows st 1 rfl | exact St.rows st 2 rfl | exact St.rows st 3 rfl | fail)
      | (with_reducible apply exr6; case h => first | exact St.rows st 0 rfl | exact St.rows st 1 rfl | exact St.rows st 2 rfl | exact St.rows st 3 rfl | fail)
      | (with_reducible apply exWr; case h => first | exact St.wr st 0 rfl rfl | exact St.wr st 1 rfl rfl | exact St.wr st 2 rfl rfl | exact St.wr st 3 rfl rfl | fail)
      | (with_reducible apply exWrRow; case h => first | exact St.wrRow st 0 rfl rfl rfl | exact St.wrRow st 1 rfl rfl rfl | exact St.wrRow st 2 rfl rfl rfl | exact St.wrRow st 3 rfl rfl rfl | fail)
      | (with_reducible refine LetW.cell ?_; (first | refine St.store st 0 rfl ?_ | refine St.store st 1 rfl ?_ | refine St.store st 2 rfl ?_ | refine St.store st 3 rfl ?_ | fail); (try clear st); intro w st; simp only [List.set] at st)
      | (with_reducible refine LetW.rows ?_; (first | refine St.storeRow st 0 rfl ?_ | refine St.storeRow st 1 rfl ?_ | refine St.storeRow st 2 rfl ?_ | refine St.storeRow st 3 rfl ?_ | fail); (try clear st); intro w st; simp only [List.set, setsL] at st)
      | ((with_reducible apply exr4); case h => first | exact St.rowAt st 0 rfl rfl | exact St.rowAt st 1 rfl rfl | exact St.rowAt st 2 rfl rfl | exact St.rowAt st 3 rfl rfl | fail)
      | ((with_reducible apply exr5); case h => first | exact St.rowAt st 0 rfl rfl | exact St.rowAt st 1 rfl rfl | exact St.rowAt st 2 rfl rfl | exact St.rowAt st 3 rfl rfl | fail)
      | ((with_reducible apply exr6); case h => first | exact St.rowAt st 0 rfl rfl | exact St.rowAt st 1 rfl rfl | exact St.rowAt st 2 rfl rfl | exact St.rowAt st 3 rfl rfl | fail)
      | with_reducible refine LetI.id (by omega) (by omega) ?_
      | fail
    rw [show nextN s = ⟨s.id, s.size, s.text, s.window, s.got, s.sent + 1⟩ by unfold nextN; rw [if_pos hc], show outN s = pcN s s.sent by unfold outN; rw [if_pos hc], decide_eq_true hc]
    refine ⟨?_, ?_, st.kp⟩
    · rw [show (s.sent : Int) + 1 - 1 = s.sent by omega]; rfl
    · have := st.hold 1 _ rfl
      rw [show (s.sent : Int) + 1 = ((s.sent + 1 : Nat) : Int) by omega] at this
      exact this
theorem sack_tu (b : Nat) (s : Snd) (pp : Option Addr) (kk : Nat) (hs : okN s) (id have_ : Int) : Tu Try.prog 11 #[.pointer (some ⟨b, 0, none⟩), .int .i64 id, .int .i64 have_] (sndA b s pp kk) (sndA b (ackN s id have_).1 pp kk) (.int .i64 (ackN s id have_).2) := by
  refine St.tu fun w0 st => ?_
  refine sack_ok _ _ _ _ _ ?_
  unfold sack
  repeat' first
    | (with_reducible refine St.alloc st ?_; (try clear st); intro b w st)
    | with_reducible refine sz_and (by (repeat rw [ByteArray.size_append]); omega) ?_
    | (refine Tu.go (snone_tu _ s pp kk hs) st 0 rfl (fun _ hg => hg) ?_; (try clear st); intro w st; simp only [List.set] at st; refine ⟨_, rfl, ?_⟩)
    | (refine Tu.go (snone_tu _ s pp kk hs) st 1 rfl (fun _ hg => hg) ?_; (try clear st); intro w st; simp only [List.set] at st; refine ⟨_, rfl, ?_⟩)
    | (refine Tu.go (snone_tu _ s pp kk hs) st 2 rfl (fun _ hg => hg) ?_; (try clear st); intro w st; simp only [List.set] at st; refine ⟨_, rfl, ?_⟩)
    | (refine Tu.go (snone_tu _ s pp kk hs) st 3 rfl (fun _ hg => hg) ?_; (try clear st); intro w st; simp only [List.set] at st; refine ⟨_, rfl, ?_⟩)
    | (with_reducible apply ex0c; case h => first | exact St.cell st 0 rfl rfl | exact St.cell st 1 rfl rfl | exact St.cell st 2 rfl rfl | exact St.cell st 3 rfl rfl | fail)
    | (with_reducible apply ex1c; case h => first | exact St.cell st 0 rfl rfl | exact St.cell st 1 rfl rfl | exact St.cell st 2 rfl rfl | exact St.cell st 3 rfl rfl | fail)
    | (with_reducible apply ex3c; case h => first | exact St.cell st 0 rfl rfl | exact St.cell st 1 rfl rfl | exact St.cell st 2 rfl rfl | exact St.cell st 3 rfl rfl | fail)
    | (with_reducible apply ex0r; case h => first | exact St.rows st 0 rfl | exact St.rows st 1 rfl | exact St.rows st 2 rfl | exact St.rows st 3 rfl | fail)
    | (with_reducible apply exr2; case h => first | exact St.rows st 0 rfl | exact St.rows st 1 rfl | exact St.rows st 2 rfl | exact St.rows st 3 rfl | fail)
    | (with_reducible apply exr3; case h => first | exact St.rows st 0 rfl | exact St.rows st 1 rfl | exact St.rows st 2 rfl | exact St.rows st 3 rfl | fail)
    | (with_reducible apply exr4; case h => first | exact St.rows st 0 rfl | exact St.rows st 1 rfl | exact St.rows st 2 rfl | exact St.rows st 3 rfl | fail)
    | (with_reducible apply exr5; case h => first | exact St.rows st 0 rfl | exact St.rows st 1 rfl | exact St.rows st 2 rfl | exact St.rows st 3 rfl | fail)
    | (with_reducible apply exr6; case h => first | exact St.rows st 0 rfl | exact St.rows st 1 rfl | exact St.rows st 2 rfl | exact St.rows st 3 rfl | fail)
    | (with_reducible apply exWr; case h => first | exact St.wr st 0 rfl rfl | exact St.wr st 1 rfl rfl | exact St.wr st 2 rfl rfl | exact St.wr st 3 rfl rfl | fail)
    | (with_reducible apply exWrRow; case h => first | exact St.wrRow st 0 rfl rfl rfl | exact St.wrRow st 1 rfl rfl rfl | exact St.wrRow st 2 rfl rfl rfl | exact St.wrRow st 3 rfl rfl rfl | fail)
    | (with_reducible refine LetW.cell ?_; (first | refine St.store st 0 rfl ?_ | refine St.store st 1 rfl ?_ | refine St.store st 2 rfl ?_ | refine St.store st 3 rfl ?_ | fail); (try clear st); intro w st; simp only [List.set] at st)
    | (with_reducible refine LetW.rows ?_; (first | refine St.storeRow st 0 rfl ?_ | refine St.storeRow st 1 rfl ?_ | refine St.storeRow st 2 rfl ?_ | refine St.storeRow st 3 rfl ?_ | fail); (try clear st); intro w st; simp only [List.set, setsL] at st)
    | ((with_reducible apply exr4); case h => first | exact St.rowAt st 0 rfl rfl | exact St.rowAt st 1 rfl rfl | exact St.rowAt st 2 rfl rfl | exact St.rowAt st 3 rfl rfl | fail)
    | ((with_reducible apply exr5); case h => first | exact St.rowAt st 0 rfl rfl | exact St.rowAt st 1 rfl rfl | exact St.rowAt st 2 rfl rfl | exact St.rowAt st 3 rfl rfl | fail)
    | ((with_reducible apply exr6); case h => first | exact St.rowAt st 0 rfl rfl | exact St.rowAt st 1 rfl rfl | exact St.rowAt st 2 rfl rfl | exact St.rowAt st 3 rfl rfl | fail)
    | with_reducible refine LetI.id (by omega) (by omega) ?_
    | fail
  refine Br.nay rfl ?_
  repeat' first
    | (with_reducible refine St.alloc st ?_; (try clear st); intro b w st)
    | with_reducible refine sz_and (by (repeat rw [ByteArray.size_append]); omega) ?_
    | (with_reducible apply ex0c; case h => first | exact St.cell st 0 rfl rfl | exact St.cell st 1 rfl rfl | exact St.cell st 2 rfl rfl | exact St.cell st 3 rfl rfl | fail)
    | (with_reducible apply ex1c; case h => first | exact St.cell st 0 rfl rfl | exact St.cell st 1 rfl rfl | exact St.cell st 2 rfl rfl | exact St.cell st 3 rfl rfl | fail)
    | (with_reducible apply ex3c; case h => first | exact St.cell st 0 rfl rfl | exact St.cell st 1 rfl rfl | exact St.cell st 2 rfl rfl | exact St.cell st 3 rfl rfl | fail)
    | (with_reducible apply ex0r; case h => first | exact St.rows st 0 rfl | exact St.rows st 1 rfl | exact St.rows st 2 rfl | exact St.rows st 3 rfl | fail)
    | (with_reducible apply exr2; case h => first | exact St.rows st 0 rfl | exact St.rows st 1 rfl | exact St.rows st 2 rfl | exact St.rows st 3 rfl | fail)
    | (with_reducible apply exr3; case h => first | exact St.rows st 0 rfl | exact St.rows st 1 rfl | exact St.rows st 2 rfl | exact St.rows st 3 rfl | fail)
    | (with_reducible apply exr4; case h => first | exact St.rows st 0 rfl | exact St.rows st 1 rfl | exact St.rows st 2 rfl | exact St.rows st 3 rfl | fail)
    | (with_reducible apply exr5; case h => first | exact St.rows st 0 rfl | exact St.rows st 1 rfl | exact St.rows st 2 rfl | exact St.rows st 3 rfl | fail)
    | (with_reducible apply exr6; case h => first | exact St.rows st 0 rfl | exact St.rows st 1 rfl | exact St.rows st 2 rfl | exact St.rows st 3 rfl | fail)
    | (with_reducible apply exWr; case h => first | exact St.wr st 0 rfl rfl | exact St.wr st 1 rfl rfl | exact St.wr st 2 rfl rfl | exact St.wr st 3 rfl rfl | fail)
    | (with_reducible apply exWrRow; case h => first | exact St.wrRow st 0 rfl rfl rfl | exact St.wrRow st 1 rfl rfl rfl | exact St.wrRow st 2 rfl rfl rfl | exact St.wrRow st 3 rfl rfl rfl | fail)
    | (with_reducible refine LetW.cell ?_; (first | refine St.store st 0 rfl ?_ | refine St.store st 1 rfl ?_ | refine St.store st 2 rfl ?_ | refine St.store st 3 rfl ?_ | fail); (try clear st); intro w st; simp only [List.set] at st)
    | (with_reducible refine LetW.rows ?_; (first | refine St.storeRow st 0 rfl ?_ | refine St.storeRow st 1 rfl ?_ | refine St.storeRow st 2 rfl ?_ | refine St.storeRow st 3 rfl ?_ | fail); (try clear st); intro w st; simp only [List.set, setsL] at st)
    | ((with_reducible apply exr4); case h => first | exact St.rowAt st 0 rfl rfl | exact St.rowAt st 1 rfl rfl | exact St.rowAt st 2 rfl rfl | exact St.rowAt st 3 rfl rfl | fail)
    | ((with_reducible apply exr5); case h => first | exact St.rowAt st 0 rfl rfl | exact St.rowAt st 1 rfl rfl | exact St.rowAt st 2 rfl rfl | exact St.rowAt st 3 rfl rfl | fail)
    | ((with_reducible apply exr6); case h => first | exact St.rowAt st 0 rfl rfl | exact St.rowAt st 1 rfl rfl | exact St.rowAt st 2 rfl rfl | exact St.rowAt st 3 rfl rfl | fail)
    | with_reducible refine LetI.id (by omega) (by omega) ?_
    | fail
  refine Br.nei (fun h => ?_) (fun h => ?_)
  · rw [show ackN s id have_ = (s, 71) by unfold ackN; rw [if_pos h]]
    exact ⟨rfl, st⟩
  repeat' first
    | (with_reducible refine St.alloc st ?_; (try clear st); intro b w st)
    | with_reducible refine sz_and (by (repeat rw [ByteArray.size_append]); omega) ?_
    | (refine Pu.go (within_pu _ _ _) st ?_; (try clear st); intro w st; refine ⟨_, rfl, ?_⟩)
    | (with_reducible apply ex0c; case h => first | exact St.cell st 0 rfl rfl | exact St.cell st 1 rfl rfl | exact St.cell st 2 rfl rfl | exact St.cell st 3 rfl rfl | fail)
    | (with_reducible apply ex1c; case h => first | exact St.cell st 0 rfl rfl | exact St.cell st 1 rfl rfl | exact St.cell st 2 rfl rfl | exact St.cell st 3 rfl rfl | fail)
    | (with_reducible apply ex3c; case h => first | exact St.cell st 0 rfl rfl | exact St.cell st 1 rfl rfl | exact St.cell st 2 rfl rfl | exact St.cell st 3 rfl rfl | fail)
    | (with_reducible apply ex0r; case h => first | exact St.rows st 0 rfl | exact St.rows st 1 rfl | exact St.rows st 2 rfl | exact St.rows st 3 rfl | fail)
    | (with_reducible apply exr2; case h => first | exact St.rows st 0 rfl | exact St.rows st 1 rfl | exact St.rows st 2 rfl | exact St.rows st 3 rfl | fail)
    | (with_reducible apply exr3; case h => first | exact St.rows st 0 rfl | exact St.rows st 1 rfl | exact St.rows st 2 rfl | exact St.rows st 3 rfl | fail)
    | (with_reducible apply exr4; case h => first | exact St.rows st 0 rfl | exact St.rows st 1 rfl | exact St.rows st 2 rfl | exact St.rows st 3 rfl | fail)
    | (with_reducible apply exr5; case h => first | exact St.rows st 0 rfl | exact St.rows st 1 rfl | exact St.rows st 2 rfl | exact St.rows st 3 rfl | fail)
    | (with_reducible apply exr6; case h => first | exact St.rows st 0 rfl | exact St.rows st 1 rfl | exact St.rows st 2 rfl | exact St.rows st 3 rfl | fail)
    | (with_reducible apply exWr; case h => first | exact St.wr st 0 rfl rfl | exact St.wr st 1 rfl rfl | exact St.wr st 2 rfl rfl | exact St.wr st 3 rfl rfl | fail)
    | (with_reducible apply exWrRow; case h => first | exact St.wrRow st 0 rfl rfl rfl | exact St.wrRow st 1 rfl rfl rfl | exact St.wrRow st 2 rfl rfl rfl | exact St.wrRow st 3 rfl rfl rfl | fail)
    | (with_reducible refine LetW.cell ?_; (first | refine St.store st 0 rfl ?_ | refine St.store st 1 rfl ?_ | refine St.store st 2 rfl ?_ | refine St.store st 3 rfl ?_ | fail); (try clear st); intro w st; simp only [List.set] at st)
    | (with_reducible refine LetW.rows ?_; (first | refine St.storeRow st 0 rfl ?_ | refine St.storeRow st 1 rfl ?_ | refine St.storeRow st 2 rfl ?_ | refine St.storeRow st 3 rfl ?_ | fail); (try clear st); intro w st; simp only [List.set, setsL] at st)
    | ((with_reducible apply exr4); case h => first | exact St.rowAt st 0 rfl rfl | exact St.rowAt st 1 rfl rfl | exact St.rowAt st 2 rfl rfl | exact St.rowAt st 3 rfl rfl | fail)
    | ((with_reducible apply exr5); case h => first | exact St.rowAt st 0 rfl rfl | exact St.rowAt st 1 rfl rfl | exact St.rowAt st 2 rfl rfl | exact St.rowAt st 3 rfl rfl | fail)
    | ((with_reducible apply exr6); case h => first | exact St.rowAt st 0 rfl rfl | exact St.rowAt st 1 rfl rfl | exact St.rowAt st 2 rfl rfl | exact St.rowAt st 3 rfl rfl | fail)
    | with_reducible refine LetI.id (by omega) (by omega) ?_
    | fail
  refine Br.not (Br.dec (fun hb => ?_) (fun hb => ?_))
  · have hbb := hb
    unfold inB at hbb
    repeat' first
      | (with_reducible refine St.alloc st ?_; (try clear st); intro b w st)
      | with_reducible refine sz_and (by (repeat rw [ByteArray.size_append]); omega) ?_
      | (with_reducible apply ex0c; case h => first | exact St.cell st 0 rfl rfl | exact St.cell st 1 rfl rfl | exact St.cell st 2 rfl rfl | exact St.cell st 3 rfl rfl | fail)
      | (with_reducible apply ex1c; case h => first | exact St.cell st 0 rfl rfl | exact St.cell st 1 rfl rfl | exact St.cell st 2 rfl rfl | exact St.cell st 3 rfl rfl | fail)
      | (with_reducible apply ex3c; case h => first | exact St.cell st 0 rfl rfl | exact St.cell st 1 rfl rfl | exact St.cell st 2 rfl rfl | exact St.cell st 3 rfl rfl | fail)
      | (with_reducible apply ex0r; case h => first | exact St.rows st 0 rfl | exact St.rows st 1 rfl | exact St.rows st 2 rfl | exact St.rows st 3 rfl | fail)
      | (with_reducible apply exr2; case h => first | exact St.rows st 0 rfl | exact St.rows st 1 rfl | exact St.rows st 2 rfl | exact St.rows st 3 rfl | fail)
      | (with_reducible apply exr3; case h => first | exact St.rows st 0 rfl | exact St.rows st 1 rfl | exact St.rows st 2 rfl | exact St.rows st 3 rfl | fail)
      | (with_reducible apply exr4; case h => first | exact St.rows st 0 rfl | exact St.rows st 1 rfl | exact St.rows st 2 rfl | exact St.rows st 3 rfl | fail)
      | (with_reducible apply exr5; case h => first | exact St.rows st 0 rfl | exact St.rows st 1 rfl | exact St.rows st 2 rfl | exact St.rows st 3 rfl | fail)
      | (with_reducible apply exr6; case h => first | exact St.rows st 0 rfl | exact St.rows st 1 rfl | exact St.rows st 2 rfl | exact St.rows st 3 rfl | fail)
      | (with_reducible apply exWr; case h => first | exact St.wr st 0 rfl rfl | exact St.wr st 1 rfl rfl | exact St.wr st 2 rfl rfl | exact St.wr st 3 rfl rfl | fail)
      | (with_reducible apply exWrRow; case h => first | exact St.wrRow st 0 rfl rfl rfl | exact St.wrRow st 1 rfl rfl rfl | exact St.wrRow st 2 rfl rfl rfl | exact St.wrRow st 3 rfl rfl rfl | fail)
      | (with_reducible refine LetW.cell ?_; (first | refine St.store st 0 rfl ?_ | refine St.store st 1 rfl ?_ | refine St.store st 2 rfl ?_ | refine St.store st 3 rfl ?_ | fail); (try clear st); intro w st; simp only [List.set] at st)
      | (with_reducible refine LetW.rows ?_; (first | refine St.storeRow st 0 rfl ?_ | refine St.storeRow st 1 rfl ?_ | refine St.storeRow st 2 rfl ?_ | refine St.storeRow st 3 rfl ?_ | fail); (try clear st); intro w st; simp only [List.set, setsL] at st)
      | ((with_reducible apply exr4); case h => first | exact St.rowAt st 0 rfl rfl | exact St.rowAt st 1 rfl rfl | exact St.rowAt st 2 rfl rfl | exact St.rowAt st 3 rfl rfl | fail)
      | ((with_reducible apply exr5); case h => first | exact St.rowAt st 0 rfl rfl | exact St.rowAt st 1 rfl rfl | exact St.rowAt st 2 rfl rfl | exact St.rowAt st 3 rfl rfl | fail)
      | ((with_reducible apply exr6); case h => first | exact St.rowAt st 0 rfl rfl | exact St.rowAt st 1 rfl rfl | exact St.rowAt st 2 rfl rfl | exact St.rowAt st 3 rfl rfl | fail)
      | with_reducible refine LetI.id (by omega) (by omega) ?_
      | fail
    refine LetI.of ?_
    repeat' first
      | (with_reducible refine St.alloc st ?_; (try clear st); intro b w st)
      | with_reducible refine sz_and (by (repeat rw [ByteArray.size_append]); omega) ?_
      | (with_reducible apply ex0c; case h => first | exact St.cell st 0 rfl rfl | exact St.cell st 1 rfl rfl | exact St.cell st 2 rfl rfl | exact St.cell st 3 rfl rfl | fail)
      | (with_reducible apply ex1c; case h => first | exact St.cell st 0 rfl rfl | exact St.cell st 1 rfl rfl | exact St.cell st 2 rfl rfl | exact St.cell st 3 rfl rfl | fail)
      | (with_reducible apply ex3c; case h => first | exact St.cell st 0 rfl rfl | exact St.cell st 1 rfl rfl | exact St.cell st 2 rfl rfl | exact St.cell st 3 rfl rfl | fail)
      | (with_reducible apply ex0r; case h => first | exact St.rows st 0 rfl | exact St.rows st 1 rfl | exact St.rows st 2 rfl | exact St.rows st 3 rfl | fail)
      | (with_reducible apply exr2; case h => first | exact St.rows st 0 rfl | exact St.rows st 1 rfl | exact St.rows st 2 rfl | exact St.rows st 3 rfl | fail)
      | (with_reducible apply exr3; case h => first | exact St.rows st 0 rfl | exact St.rows st 1 rfl | exact St.rows st 2 rfl | exact St.rows st 3 rfl | fail)
      | (with_reducible apply exr4; case h => first | exact St.rows st 0 rfl | exact St.rows st 1 rfl | exact St.rows st 2 rfl | exact St.rows st 3 rfl | fail)
      | (with_reducible apply exr5; case h => first | exact St.rows st 0 rfl | exact St.rows st 1 rfl | exact St.rows st 2 rfl | exact St.rows st 3 rfl | fail)
      | (with_reducible apply exr6; case h => first | exact St.rows st 0 rfl | exact St.rows st 1 rfl | exact St.rows st 2 rfl | exact St.rows st 3 rfl | fail)
      | (with_reducible apply exWr; case h => first | exact St.wr st 0 rfl rfl | exact St.wr st 1 rfl rfl | exact St.wr st 2 rfl rfl | exact St.wr st 3 rfl rfl | fail)
      | (with_reducible apply exWrRow; case h => first | exact St.wrRow st 0 rfl rfl rfl | exact St.wrRow st 1 rfl rfl rfl | exact St.wrRow st 2 rfl rfl rfl | exact St.wrRow st 3 rfl rfl rfl | fail)
      | (with_reducible refine LetW.cell ?_; (first | refine St.store st 0 rfl ?_ | refine St.store st 1 rfl ?_ | refine St.store st 2 rfl ?_ | refine St.store st 3 rfl ?_ | fail); (try clear st); intro w st; simp only [List.set] at st)
      | (with_reducible refine LetW.rows ?_; (first | refine St.storeRow st 0 rfl ?_ | refine St.storeRow st 1 rfl ?_ | refine St.storeRow st 2 rfl ?_ | refine St.storeRow st 3 rfl ?_ | fail); (try clear st); intro w st; simp only [List.set, setsL] at st)
      | ((with_reducible apply exr4); case h => first | exact St.rowAt st 0 rfl rfl | exact St.rowAt st 1 rfl rfl | exact St.rowAt st 2 rfl rfl | exact St.rowAt st 3 rfl rfl | fail)
      | ((with_reducible apply exr5); case h => first | exact St.rowAt st 0 rfl rfl | exact St.rowAt st 1 rfl rfl | exact St.rowAt st 2 rfl rfl | exact St.rowAt st 3 rfl rfl | fail)
      | ((with_reducible apply exr6); case h => first | exact St.rowAt st 0 rfl rfl | exact St.rowAt st 1 rfl rfl | exact St.rowAt st 2 rfl rfl | exact St.rowAt st 3 rfl rfl | fail)
      | with_reducible refine LetI.id (by omega) (by omega) ?_
      | fail
    refine LetI.of ?_
    repeat' first
      | (with_reducible refine St.alloc st ?_; (try clear st); intro b w st)
      | with_reducible refine sz_and (by (repeat rw [ByteArray.size_append]); omega) ?_
      | (with_reducible apply ex0c; case h => first | exact St.cell st 0 rfl rfl | exact St.cell st 1 rfl rfl | exact St.cell st 2 rfl rfl | exact St.cell st 3 rfl rfl | fail)
      | (with_reducible apply ex1c; case h => first | exact St.cell st 0 rfl rfl | exact St.cell st 1 rfl rfl | exact St.cell st 2 rfl rfl | exact St.cell st 3 rfl rfl | fail)
      | (with_reducible apply ex3c; case h => first | exact St.cell st 0 rfl rfl | exact St.cell st 1 rfl rfl | exact St.cell st 2 rfl rfl | exact St.cell st 3 rfl rfl | fail)
      | (with_reducible apply ex0r; case h => first | exact St.rows st 0 rfl | exact St.rows st 1 rfl | exact St.rows st 2 rfl | exact St.rows st 3 rfl | fail)
      | (with_reducible apply exr2; case h => first | exact St.rows st 0 rfl | exact St.rows st 1 rfl | exact St.rows st 2 rfl | exact St.rows st 3 rfl | fail)
      | (with_reducible apply exr3; case h => first | exact St.rows st 0 rfl | exact St.rows st 1 rfl | exact St.rows st 2 rfl | exact St.rows st 3 rfl | fail)
      | (with_reducible apply exr4; case h => first | exact St.rows st 0 rfl | exact St.rows st 1 rfl | exact St.rows st 2 rfl | exact St.rows st 3 rfl | fail)
      | (with_reducible apply exr5; case h => first | exact St.rows st 0 rfl | exact St.rows st 1 rfl | exact St.rows st 2 rfl | exact St.rows st 3 rfl | fail)
      | (with_reducible apply exr6; case h => first | exact St.rows st 0 rfl | exact St.rows st 1 rfl | exact St.rows st 2 rfl | exact St.rows st 3 rfl | fail)
      | (with_reducible apply exWr; case h => first | exact St.wr st 0 rfl rfl | exact St.wr st 1 rfl rfl | exact St.wr st 2 rfl rfl | exact St.wr st 3 rfl rfl | fail)
      | (with_reducible apply exWrRow; case h => first | exact St.wrRow st 0 rfl rfl rfl | exact St.wrRow st 1 rfl rfl rfl | exact St.wrRow st 2 rfl rfl rfl | exact St.wrRow st 3 rfl rfl rfl | fail)
      | (with_reducible refine LetW.cell ?_; (first | refine St.store st 0 rfl ?_ | refine St.store st 1 rfl ?_ | refine St.store st 2 rfl ?_ | refine St.store st 3 rfl ?_ | fail); (try clear st); intro w st; simp only [List.set] at st)
      | (with_reducible refine LetW.rows ?_; (first | refine St.storeRow st 0 rfl ?_ | refine St.storeRow st 1 rfl ?_ | refine St.storeRow st 2 rfl ?_ | refine St.storeRow st 3 rfl ?_ | fail); (try clear st); intro w st; simp only [List.set, setsL] at st)
      | ((with_reducible apply exr4); case h => first | exact St.rowAt st 0 rfl rfl | exact St.rowAt st 1 rfl rfl | exact St.rowAt st 2 rfl rfl | exact St.rowAt st 3 rfl rfl | fail)
      | ((with_reducible apply exr5); case h => first | exact St.rowAt st 0 rfl rfl | exact St.rowAt st 1 rfl rfl | exact St.rowAt st 2 rfl rfl | exact St.rowAt st 3 rfl rfl | fail)
      | ((with_reducible apply exr6); case h => first | exact St.rowAt st 0 rfl rfl | exact St.rowAt st 1 rfl rfl | exact St.rowAt st 2 rfl rfl | exact St.rowAt st 3 rfl rfl | fail)
      | with_reducible refine LetI.id (by omega) (by omega) ?_
      | fail
    rw [show ackN s id have_ = (⟨s.id, s.size, s.text, s.window, max s.got have_.toNat, max s.sent (max s.got have_.toNat)⟩, 0) by unfold ackN; rw [if_neg (by simp [h]), if_neg (by omega)]]
    refine ⟨rfl, ?_⟩
    rw [show max (s.got : Int) have_ = ((max s.got have_.toNat : Nat) : Int) by omega, show max (s.sent : Int) ((max s.got have_.toNat : Nat) : Int) = ((max s.sent (max s.got have_.toNat) : Nat) : Int) by omega] at st
    exact st
  · unfold inB at hb
    rw [show ackN s id have_ = (s, 2) by unfold ackN; rw [if_neg (by simp [h]), if_pos (by omega)]]
    exact ⟨rfl, st⟩
theorem sback_tu (b : Nat) (s : Snd) (pp : Option Addr) (kk : Nat) (hs : okN s) : Tu Try.prog 16 #[.pointer (some ⟨b, 0, none⟩)] (sndA b s pp kk) (sndA b (backN s) pp kk) (.tuple #[]) := by
  refine St.tu fun w0 st => ?_
  refine sback_ok _ _ _ ?_
  unfold sback
  repeat' first
    | (with_reducible refine St.alloc st ?_; (try clear st); intro b w st)
    | with_reducible refine sz_and (by (repeat rw [ByteArray.size_append]); omega) ?_
    | (refine Tu.go (snone_tu _ s pp kk hs) st 0 rfl (fun _ hg => hg) ?_; (try clear st); intro w st; simp only [List.set] at st; refine ⟨_, rfl, ?_⟩)
    | (refine Tu.go (snone_tu _ s pp kk hs) st 1 rfl (fun _ hg => hg) ?_; (try clear st); intro w st; simp only [List.set] at st; refine ⟨_, rfl, ?_⟩)
    | (refine Tu.go (snone_tu _ s pp kk hs) st 2 rfl (fun _ hg => hg) ?_; (try clear st); intro w st; simp only [List.set] at st; refine ⟨_, rfl, ?_⟩)
    | (refine Tu.go (snone_tu _ s pp kk hs) st 3 rfl (fun _ hg => hg) ?_; (try clear st); intro w st; simp only [List.set] at st; refine ⟨_, rfl, ?_⟩)
    | (with_reducible apply ex0c; case h => first | exact St.cell st 0 rfl rfl | exact St.cell st 1 rfl rfl | exact St.cell st 2 rfl rfl | exact St.cell st 3 rfl rfl | fail)
    | (with_reducible apply ex1c; case h => first | exact St.cell st 0 rfl rfl | exact St.cell st 1 rfl rfl | exact St.cell st 2 rfl rfl | exact St.cell st 3 rfl rfl | fail)
    | (with_reducible apply ex3c; case h => first | exact St.cell st 0 rfl rfl | exact St.cell st 1 rfl rfl | exact St.cell st 2 rfl rfl | exact St.cell st 3 rfl rfl | fail)
    | (with_reducible apply ex0r; case h => first | exact St.rows st 0 rfl | exact St.rows st 1 rfl | exact St.rows st 2 rfl | exact St.rows st 3 rfl | fail)
    | (with_reducible apply exr2; case h => first | exact St.rows st 0 rfl | exact St.rows st 1 rfl | exact St.rows st 2 rfl | exact St.rows st 3 rfl | fail)
    | (with_reducible apply exr3; case h => first | exact St.rows st 0 rfl | exact St.rows st 1 rfl | exact St.rows st 2 rfl | exact St.rows st 3 rfl | fail)
    | (with_reducible apply exr4; case h => first | exact St.rows st 0 rfl | exact St.rows st 1 rfl | exact St.rows st 2 rfl | exact St.rows st 3 rfl | fail)
    | (with_reducible apply exr5; case h => first | exact St.rows st 0 rfl | exact St.rows st 1 rfl | exact St.rows st 2 rfl | exact St.rows st 3 rfl | fail)
    | (with_reducible apply exr6; case h => first | exact St.rows st 0 rfl | exact St.rows st 1 rfl | exact St.rows st 2 rfl | exact St.rows st 3 rfl | fail)
    | (with_reducible apply exWr; case h => first | exact St.wr st 0 rfl rfl | exact St.wr st 1 rfl rfl | exact St.wr st 2 rfl rfl | exact St.wr st 3 rfl rfl | fail)
    | (with_reducible apply exWrRow; case h => first | exact St.wrRow st 0 rfl rfl rfl | exact St.wrRow st 1 rfl rfl rfl | exact St.wrRow st 2 rfl rfl rfl | exact St.wrRow st 3 rfl rfl rfl | fail)
    | (with_reducible refine LetW.cell ?_; (first | refine St.store st 0 rfl ?_ | refine St.store st 1 rfl ?_ | refine St.store st 2 rfl ?_ | refine St.store st 3 rfl ?_ | fail); (try clear st); intro w st; simp only [List.set] at st)
    | (with_reducible refine LetW.rows ?_; (first | refine St.storeRow st 0 rfl ?_ | refine St.storeRow st 1 rfl ?_ | refine St.storeRow st 2 rfl ?_ | refine St.storeRow st 3 rfl ?_ | fail); (try clear st); intro w st; simp only [List.set, setsL] at st)
    | ((with_reducible apply exr4); case h => first | exact St.rowAt st 0 rfl rfl | exact St.rowAt st 1 rfl rfl | exact St.rowAt st 2 rfl rfl | exact St.rowAt st 3 rfl rfl | fail)
    | ((with_reducible apply exr5); case h => first | exact St.rowAt st 0 rfl rfl | exact St.rowAt st 1 rfl rfl | exact St.rowAt st 2 rfl rfl | exact St.rowAt st 3 rfl rfl | fail)
    | ((with_reducible apply exr6); case h => first | exact St.rowAt st 0 rfl rfl | exact St.rowAt st 1 rfl rfl | exact St.rowAt st 2 rfl rfl | exact St.rowAt st 3 rfl rfl | fail)
    | with_reducible refine LetI.id (by omega) (by omega) ?_
    | fail
  repeat' first
    | (with_reducible refine St.alloc st ?_; (try clear st); intro b w st)
    | with_reducible refine sz_and (by (repeat rw [ByteArray.size_append]); omega) ?_
    | (with_reducible apply ex0c; case h => first | exact St.cell st 0 rfl rfl | exact St.cell st 1 rfl rfl | exact St.cell st 2 rfl rfl | exact St.cell st 3 rfl rfl | fail)
    | (with_reducible apply ex1c; case h => first | exact St.cell st 0 rfl rfl | exact St.cell st 1 rfl rfl | exact St.cell st 2 rfl rfl | exact St.cell st 3 rfl rfl | fail)
    | (with_reducible apply ex3c; case h => first | exact St.cell st 0 rfl rfl | exact St.cell st 1 rfl rfl | exact St.cell st 2 rfl rfl | exact St.cell st 3 rfl rfl | fail)
    | (with_reducible apply ex0r; case h => first | exact St.rows st 0 rfl | exact St.rows st 1 rfl | exact St.rows st 2 rfl | exact St.rows st 3 rfl | fail)
    | (with_reducible apply exr2; case h => first | exact St.rows st 0 rfl | exact St.rows st 1 rfl | exact St.rows st 2 rfl | exact St.rows st 3 rfl | fail)
    | (with_reducible apply exr3; case h => first | exact St.rows st 0 rfl | exact St.rows st 1 rfl | exact St.rows st 2 rfl | exact St.rows st 3 rfl | fail)
    | (with_reducible apply exr4; case h => first | exact St.rows st 0 rfl | exact St.rows st 1 rfl | exact St.rows st 2 rfl | exact St.rows st 3 rfl | fail)
    | (with_reducible apply exr5; case h => first | exact St.rows st 0 rfl | exact St.rows st 1 rfl | exact St.rows st 2 rfl | exact St.rows st 3 rfl | fail)
    | (with_reducible apply exr6; case h => first | exact St.rows st 0 rfl | exact St.rows st 1 rfl | exact St.rows st 2 rfl | exact St.rows st 3 rfl | fail)
    | (with_reducible apply exWr; case h => first | exact St.wr st 0 rfl rfl | exact St.wr st 1 rfl rfl | exact St.wr st 2 rfl rfl | exact St.wr st 3 rfl rfl | fail)
    | (with_reducible apply exWrRow; case h => first | exact St.wrRow st 0 rfl rfl rfl | exact St.wrRow st 1 rfl rfl rfl | exact St.wrRow st 2 rfl rfl rfl | exact St.wrRow st 3 rfl rfl rfl | fail)
    | (with_reducible refine LetW.cell ?_; (first | refine St.store st 0 rfl ?_ | refine St.store st 1 rfl ?_ | refine St.store st 2 rfl ?_ | refine St.store st 3 rfl ?_ | fail); (try clear st); intro w st; simp only [List.set] at st)
    | (with_reducible refine LetW.rows ?_; (first | refine St.storeRow st 0 rfl ?_ | refine St.storeRow st 1 rfl ?_ | refine St.storeRow st 2 rfl ?_ | refine St.storeRow st 3 rfl ?_ | fail); (try clear st); intro w st; simp only [List.set, setsL] at st)
    | ((with_reducible apply exr4); case h => first | exact St.rowAt st 0 rfl rfl | exact St.rowAt st 1 rfl rfl | exact St.rowAt st 2 rfl rfl | exact St.rowAt st 3 rfl rfl | fail)
    | ((with_reducible apply exr5); case h => first | exact St.rowAt st 0 rfl rfl | exact St.rowAt st 1 rfl rfl | exact St.rowAt st 2 rfl rfl | exact St.rowAt st 3 rfl rfl | fail)
    | ((with_reducible apply exr6); case h => first | exact St.rowAt st 0 rfl rfl | exact St.rowAt st 1 rfl rfl | exact St.rowAt st 2 rfl rfl | exact St.rowAt st 3 rfl rfl | fail)
    | with_reducible refine LetI.id (by omega) (by omega) ?_
    | refine Br.not ?_
    | refine Br.nay rfl ?_
    | refine Br.sure rfl ?_
    | fail
  exact ⟨rfl, st⟩
theorem shave_tu (b : Nat) (s : Snd) (pp : Option Addr) (kk : Nat) (hs : okN s) : Tu Try.prog 18 #[.pointer (some ⟨b, 0, none⟩)] (sndA b s pp kk) (sndA b s pp kk) (.int .i64 (s.got : Int)) := by
  refine St.tu fun w0 st => ?_
  refine shave_ok _ _ _ ?_
  unfold shave
  repeat' first
    | (with_reducible refine St.alloc st ?_; (try clear st); intro b w st)
    | with_reducible refine sz_and (by (repeat rw [ByteArray.size_append]); omega) ?_
    | (refine Tu.go (snone_tu _ s pp kk hs) st 0 rfl (fun _ hg => hg) ?_; (try clear st); intro w st; simp only [List.set] at st; refine ⟨_, rfl, ?_⟩)
    | (refine Tu.go (snone_tu _ s pp kk hs) st 1 rfl (fun _ hg => hg) ?_; (try clear st); intro w st; simp only [List.set] at st; refine ⟨_, rfl, ?_⟩)
    | (refine Tu.go (snone_tu _ s pp kk hs) st 2 rfl (fun _ hg => hg) ?_; (try clear st); intro w st; simp only [List.set] at st; refine ⟨_, rfl, ?_⟩)
    | (refine Tu.go (snone_tu _ s pp kk hs) st 3 rfl (fun _ hg => hg) ?_; (try clear st); intro w st; simp only [List.set] at st; refine ⟨_, rfl, ?_⟩)
    | (with_reducible apply ex0c; case h => first | exact St.cell st 0 rfl rfl | exact St.cell st 1 rfl rfl | exact St.cell st 2 rfl rfl | exact St.cell st 3 rfl rfl | fail)
    | (with_reducible apply ex1c; case h => first | exact St.cell st 0 rfl rfl | exact St.cell st 1 rfl rfl | exact St.cell st 2 rfl rfl | exact St.cell st 3 rfl rfl | fail)
    | (with_reducible apply ex3c; case h => first | exact St.cell st 0 rfl rfl | exact St.cell st 1 rfl rfl | exact St.cell st 2 rfl rfl | exact St.cell st 3 rfl rfl | fail)
    | (with_reducible apply ex0r; case h => first | exact St.rows st 0 rfl | exact St.rows st 1 rfl | exact St.rows st 2 rfl | exact St.rows st 3 rfl | fail)
    | (with_reducible apply exr2; case h => first | exact St.rows st 0 rfl | exact St.rows st 1 rfl | exact St.rows st 2 rfl | exact St.rows st 3 rfl | fail)
    | (with_reducible apply exr3; case h => first | exact St.rows st 0 rfl | exact St.rows st 1 rfl | exact St.rows st 2 rfl | exact St.rows st 3 rfl | fail)
    | (with_reducible apply exr4; case h => first | exact St.rows st 0 rfl | exact St.rows st 1 rfl | exact St.rows st 2 rfl | exact St.rows st 3 rfl | fail)
    | (with_reducible apply exr5; case h => first | exact St.rows st 0 rfl | exact St.rows st 1 rfl | exact St.rows st 2 rfl | exact St.rows st 3 rfl | fail)
    | (with_reducible apply exr6; case h => first | exact St.rows st 0 rfl | exact St.rows st 1 rfl | exact St.rows st 2 rfl | exact St.rows st 3 rfl | fail)
    | (with_reducible apply exWr; case h => first | exact St.wr st 0 rfl rfl | exact St.wr st 1 rfl rfl | exact St.wr st 2 rfl rfl | exact St.wr st 3 rfl rfl | fail)
    | (with_reducible apply exWrRow; case h => first | exact St.wrRow st 0 rfl rfl rfl | exact St.wrRow st 1 rfl rfl rfl | exact St.wrRow st 2 rfl rfl rfl | exact St.wrRow st 3 rfl rfl rfl | fail)
    | (with_reducible refine LetW.cell ?_; (first | refine St.store st 0 rfl ?_ | refine St.store st 1 rfl ?_ | refine St.store st 2 rfl ?_ | refine St.store st 3 rfl ?_ | fail); (try clear st); intro w st; simp only [List.set] at st)
    | (with_reducible refine LetW.rows ?_; (first | refine St.storeRow st 0 rfl ?_ | refine St.storeRow st 1 rfl ?_ | refine St.storeRow st 2 rfl ?_ | refine St.storeRow st 3 rfl ?_ | fail); (try clear st); intro w st; simp only [List.set, setsL] at st)
    | ((with_reducible apply exr4); case h => first | exact St.rowAt st 0 rfl rfl | exact St.rowAt st 1 rfl rfl | exact St.rowAt st 2 rfl rfl | exact St.rowAt st 3 rfl rfl | fail)
    | ((with_reducible apply exr5); case h => first | exact St.rowAt st 0 rfl rfl | exact St.rowAt st 1 rfl rfl | exact St.rowAt st 2 rfl rfl | exact St.rowAt st 3 rfl rfl | fail)
    | ((with_reducible apply exr6); case h => first | exact St.rowAt st 0 rfl rfl | exact St.rowAt st 1 rfl rfl | exact St.rowAt st 2 rfl rfl | exact St.rowAt st 3 rfl rfl | fail)
    | with_reducible refine LetI.id (by omega) (by omega) ?_
    | fail
  repeat' first
    | (with_reducible refine St.alloc st ?_; (try clear st); intro b w st)
    | with_reducible refine sz_and (by (repeat rw [ByteArray.size_append]); omega) ?_
    | (with_reducible apply ex0c; case h => first | exact St.cell st 0 rfl rfl | exact St.cell st 1 rfl rfl | exact St.cell st 2 rfl rfl | exact St.cell st 3 rfl rfl | fail)
    | (with_reducible apply ex1c; case h => first | exact St.cell st 0 rfl rfl | exact St.cell st 1 rfl rfl | exact St.cell st 2 rfl rfl | exact St.cell st 3 rfl rfl | fail)
    | (with_reducible apply ex3c; case h => first | exact St.cell st 0 rfl rfl | exact St.cell st 1 rfl rfl | exact St.cell st 2 rfl rfl | exact St.cell st 3 rfl rfl | fail)
    | (with_reducible apply ex0r; case h => first | exact St.rows st 0 rfl | exact St.rows st 1 rfl | exact St.rows st 2 rfl | exact St.rows st 3 rfl | fail)
    | (with_reducible apply exr2; case h => first | exact St.rows st 0 rfl | exact St.rows st 1 rfl | exact St.rows st 2 rfl | exact St.rows st 3 rfl | fail)
    | (with_reducible apply exr3; case h => first | exact St.rows st 0 rfl | exact St.rows st 1 rfl | exact St.rows st 2 rfl | exact St.rows st 3 rfl | fail)
    | (with_reducible apply exr4; case h => first | exact St.rows st 0 rfl | exact St.rows st 1 rfl | exact St.rows st 2 rfl | exact St.rows st 3 rfl | fail)
    | (with_reducible apply exr5; case h => first | exact St.rows st 0 rfl | exact St.rows st 1 rfl | exact St.rows st 2 rfl | exact St.rows st 3 rfl | fail)
    | (with_reducible apply exr6; case h => first | exact St.rows st 0 rfl | exact St.rows st 1 rfl | exact St.rows st 2 rfl | exact St.rows st 3 rfl | fail)
    | (with_reducible apply exWr; case h => first | exact St.wr st 0 rfl rfl | exact St.wr st 1 rfl rfl | exact St.wr st 2 rfl rfl | exact St.wr st 3 rfl rfl | fail)
    | (with_reducible apply exWrRow; case h => first | exact St.wrRow st 0 rfl rfl rfl | exact St.wrRow st 1 rfl rfl rfl | exact St.wrRow st 2 rfl rfl rfl | exact St.wrRow st 3 rfl rfl rfl | fail)
    | (with_reducible refine LetW.cell ?_; (first | refine St.store st 0 rfl ?_ | refine St.store st 1 rfl ?_ | refine St.store st 2 rfl ?_ | refine St.store st 3 rfl ?_ | fail); (try clear st); intro w st; simp only [List.set] at st)
    | (with_reducible refine LetW.rows ?_; (first | refine St.storeRow st 0 rfl ?_ | refine St.storeRow st 1 rfl ?_ | refine St.storeRow st 2 rfl ?_ | refine St.storeRow st 3 rfl ?_ | fail); (try clear st); intro w st; simp only [List.set, setsL] at st)
    | ((with_reducible apply exr4); case h => first | exact St.rowAt st 0 rfl rfl | exact St.rowAt st 1 rfl rfl | exact St.rowAt st 2 rfl rfl | exact St.rowAt st 3 rfl rfl | fail)
    | ((with_reducible apply exr5); case h => first | exact St.rowAt st 0 rfl rfl | exact St.rowAt st 1 rfl rfl | exact St.rowAt st 2 rfl rfl | exact St.rowAt st 3 rfl rfl | fail)
    | ((with_reducible apply exr6); case h => first | exact St.rowAt st 0 rfl rfl | exact St.rowAt st 1 rfl rfl | exact St.rowAt st 2 rfl rfl | exact St.rowAt st 3 rfl rfl | fail)
    | with_reducible refine LetI.id (by omega) (by omega) ?_
    | refine Br.not ?_
    | refine Br.nay rfl ?_
    | refine Br.sure rfl ?_
    | fail
  exact ⟨rfl, st⟩
theorem sdone_tu (b : Nat) (s : Snd) (pp : Option Addr) (kk : Nat) (hs : okN s) : Tu Try.prog 13 #[.pointer (some ⟨b, 0, none⟩)] (sndA b s pp kk) (sndA b s pp kk) (.bool (decide (s.got = s.total))) := by
  refine St.tu fun w0 st => ?_
  refine sdone_ok _ _ _ ?_
  unfold sdone
  repeat' first
    | (with_reducible refine St.alloc st ?_; (try clear st); intro b w st)
    | with_reducible refine sz_and (by (repeat rw [ByteArray.size_append]); omega) ?_
    | (refine Tu.go (snone_tu _ s pp kk hs) st 0 rfl (fun _ hg => hg) ?_; (try clear st); intro w st; simp only [List.set] at st; refine ⟨_, rfl, ?_⟩)
    | (refine Tu.go (snone_tu _ s pp kk hs) st 1 rfl (fun _ hg => hg) ?_; (try clear st); intro w st; simp only [List.set] at st; refine ⟨_, rfl, ?_⟩)
    | (refine Tu.go (snone_tu _ s pp kk hs) st 2 rfl (fun _ hg => hg) ?_; (try clear st); intro w st; simp only [List.set] at st; refine ⟨_, rfl, ?_⟩)
    | (refine Tu.go (snone_tu _ s pp kk hs) st 3 rfl (fun _ hg => hg) ?_; (try clear st); intro w st; simp only [List.set] at st; refine ⟨_, rfl, ?_⟩)
    | (with_reducible apply ex0c; case h => first | exact St.cell st 0 rfl rfl | exact St.cell st 1 rfl rfl | exact St.cell st 2 rfl rfl | exact St.cell st 3 rfl rfl | fail)
    | (with_reducible apply ex1c; case h => first | exact St.cell st 0 rfl rfl | exact St.cell st 1 rfl rfl | exact St.cell st 2 rfl rfl | exact St.cell st 3 rfl rfl | fail)
    | (with_reducible apply ex3c; case h => first | exact St.cell st 0 rfl rfl | exact St.cell st 1 rfl rfl | exact St.cell st 2 rfl rfl | exact St.cell st 3 rfl rfl | fail)
    | (with_reducible apply ex0r; case h => first | exact St.rows st 0 rfl | exact St.rows st 1 rfl | exact St.rows st 2 rfl | exact St.rows st 3 rfl | fail)
    | (with_reducible apply exr2; case h => first | exact St.rows st 0 rfl | exact St.rows st 1 rfl | exact St.rows st 2 rfl | exact St.rows st 3 rfl | fail)
    | (with_reducible apply exr3; case h => first | exact St.rows st 0 rfl | exact St.rows st 1 rfl | exact St.rows st 2 rfl | exact St.rows st 3 rfl | fail)
    | (with_reducible apply exr4; case h => first | exact St.rows st 0 rfl | exact St.rows st 1 rfl | exact St.rows st 2 rfl | exact St.rows st 3 rfl | fail)
    | (with_reducible apply exr5; case h => first | exact St.rows st 0 rfl | exact St.rows st 1 rfl | exact St.rows st 2 rfl | exact St.rows st 3 rfl | fail)
    | (with_reducible apply exr6; case h => first | exact St.rows st 0 rfl | exact St.rows st 1 rfl | exact St.rows st 2 rfl | exact St.rows st 3 rfl | fail)
    | (with_reducible apply exWr; case h => first | exact St.wr st 0 rfl rfl | exact St.wr st 1 rfl rfl | exact St.wr st 2 rfl rfl | exact St.wr st 3 rfl rfl | fail)
    | (with_reducible apply exWrRow; case h => first | exact St.wrRow st 0 rfl rfl rfl | exact St.wrRow st 1 rfl rfl rfl | exact St.wrRow st 2 rfl rfl rfl | exact St.wrRow st 3 rfl rfl rfl | fail)
    | (with_reducible refine LetW.cell ?_; (first | refine St.store st 0 rfl ?_ | refine St.store st 1 rfl ?_ | refine St.store st 2 rfl ?_ | refine St.store st 3 rfl ?_ | fail); (try clear st); intro w st; simp only [List.set] at st)
    | (with_reducible refine LetW.rows ?_; (first | refine St.storeRow st 0 rfl ?_ | refine St.storeRow st 1 rfl ?_ | refine St.storeRow st 2 rfl ?_ | refine St.storeRow st 3 rfl ?_ | fail); (try clear st); intro w st; simp only [List.set, setsL] at st)
    | ((with_reducible apply exr4); case h => first | exact St.rowAt st 0 rfl rfl | exact St.rowAt st 1 rfl rfl | exact St.rowAt st 2 rfl rfl | exact St.rowAt st 3 rfl rfl | fail)
    | ((with_reducible apply exr5); case h => first | exact St.rowAt st 0 rfl rfl | exact St.rowAt st 1 rfl rfl | exact St.rowAt st 2 rfl rfl | exact St.rowAt st 3 rfl rfl | fail)
    | ((with_reducible apply exr6); case h => first | exact St.rowAt st 0 rfl rfl | exact St.rowAt st 1 rfl rfl | exact St.rowAt st 2 rfl rfl | exact St.rowAt st 3 rfl rfl | fail)
    | with_reducible refine LetI.id (by omega) (by omega) ?_
    | fail
  repeat' first
    | (with_reducible refine St.alloc st ?_; (try clear st); intro b w st)
    | with_reducible refine sz_and (by (repeat rw [ByteArray.size_append]); omega) ?_
    | (with_reducible apply ex0c; case h => first | exact St.cell st 0 rfl rfl | exact St.cell st 1 rfl rfl | exact St.cell st 2 rfl rfl | exact St.cell st 3 rfl rfl | fail)
    | (with_reducible apply ex1c; case h => first | exact St.cell st 0 rfl rfl | exact St.cell st 1 rfl rfl | exact St.cell st 2 rfl rfl | exact St.cell st 3 rfl rfl | fail)
    | (with_reducible apply ex3c; case h => first | exact St.cell st 0 rfl rfl | exact St.cell st 1 rfl rfl | exact St.cell st 2 rfl rfl | exact St.cell st 3 rfl rfl | fail)
    | (with_reducible apply ex0r; case h => first | exact St.rows st 0 rfl | exact St.rows st 1 rfl | exact St.rows st 2 rfl | exact St.rows st 3 rfl | fail)
    | (with_reducible apply exr2; case h => first | exact St.rows st 0 rfl | exact St.rows st 1 rfl | exact St.rows st 2 rfl | exact St.rows st 3 rfl | fail)
    | (with_reducible apply exr3; case h => first | exact St.rows st 0 rfl | exact St.rows st 1 rfl | exact St.rows st 2 rfl | exact St.rows st 3 rfl | fail)
    | (with_reducible apply exr4; case h => first | exact St.rows st 0 rfl | exact St.rows st 1 rfl | exact St.rows st 2 rfl | exact St.rows st 3 rfl | fail)
    | (with_reducible apply exr5; case h => first | exact St.rows st 0 rfl | exact St.rows st 1 rfl | exact St.rows st 2 rfl | exact St.rows st 3 rfl | fail)
    | (with_reducible apply exr6; case h => first | exact St.rows st 0 rfl | exact St.rows st 1 rfl | exact St.rows st 2 rfl | exact St.rows st 3 rfl | fail)
    | (with_reducible apply exWr; case h => first | exact St.wr st 0 rfl rfl | exact St.wr st 1 rfl rfl | exact St.wr st 2 rfl rfl | exact St.wr st 3 rfl rfl | fail)
    | (with_reducible apply exWrRow; case h => first | exact St.wrRow st 0 rfl rfl rfl | exact St.wrRow st 1 rfl rfl rfl | exact St.wrRow st 2 rfl rfl rfl | exact St.wrRow st 3 rfl rfl rfl | fail)
    | (with_reducible refine LetW.cell ?_; (first | refine St.store st 0 rfl ?_ | refine St.store st 1 rfl ?_ | refine St.store st 2 rfl ?_ | refine St.store st 3 rfl ?_ | fail); (try clear st); intro w st; simp only [List.set] at st)
    | (with_reducible refine LetW.rows ?_; (first | refine St.storeRow st 0 rfl ?_ | refine St.storeRow st 1 rfl ?_ | refine St.storeRow st 2 rfl ?_ | refine St.storeRow st 3 rfl ?_ | fail); (try clear st); intro w st; simp only [List.set, setsL] at st)
    | ((with_reducible apply exr4); case h => first | exact St.rowAt st 0 rfl rfl | exact St.rowAt st 1 rfl rfl | exact St.rowAt st 2 rfl rfl | exact St.rowAt st 3 rfl rfl | fail)
    | ((with_reducible apply exr5); case h => first | exact St.rowAt st 0 rfl rfl | exact St.rowAt st 1 rfl rfl | exact St.rowAt st 2 rfl rfl | exact St.rowAt st 3 rfl rfl | fail)
    | ((with_reducible apply exr6); case h => first | exact St.rowAt st 0 rfl rfl | exact St.rowAt st 1 rfl rfl | exact St.rowAt st 2 rfl rfl | exact St.rowAt st 3 rfl rfl | fail)
    | with_reducible refine LetI.id (by omega) (by omega) ?_
    | refine Br.not ?_
    | refine Br.nay rfl ?_
    | refine Br.sure rfl ?_
    | fail
  refine ⟨congrArg (fun b => Ending.returned (Value.bool b)) (Bool.eq_iff_iff.2 ?_), st⟩
  simp
  omega
end Go.Proofs.Ytdiejbojobbboaa
