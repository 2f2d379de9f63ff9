/- Package transfer, and the document's answer for it: a text is opened; the document's senders. -/
import Derived.Test.YtdiejbojobbboaaT1
namespace Go.Proofs.Ytdiejbojobbboaa
open Go.Vc Go.Tr

def argOk (id size win : Int) : Prop := inB id 1 1099511627776 ∧ inB size 1 512 ∧ inB win 1 16
instance (a b c : Int) : Decidable (argOk a b c) := inferInstanceAs (Decidable (_ ∧ _ ∧ _))
def newN (id : Int) (size : Nat) (l : List UInt8) (win : Int) : Snd := ⟨id, size, l, win, 0, 0⟩
theorem newN_ok {id size win : Int} {l : List UInt8} (h : argOk id size win) (hl : l.length ≤ 1000) : okN (newN id size.toNat l win) := by
  obtain ⟨h1, h2, h3⟩ := h
  unfold inB at h1 h2 h3
  exact ⟨h1, by show 1 ≤ size.toNat ∧ size.toNat ≤ 512; omega, h3, Nat.zero_le _, Nat.zero_le _, Nat.le_refl _, hl⟩
theorem infoStr : (Try.prog.info? 9).map (fun i => (i.zero, i.size, i.bytes)) = some (some (.string (mk [])), 1, 16) := by kernel_rfl
theorem sizeByte : sizeT Try.prog 5 = 1 := by kernel_rfl
set_option maxHeartbeats 4000000 in
theorem topen_ca {w0 : World} {id size win : Int} {l : List UInt8} (hl : l.length ≤ 1000) : Ca Try.prog 8 #[.int .i64 id, .string (mk l), .int .i64 size, .int .i64 win] w0 fun e w' =>
    (¬ argOk id size win ∧ e = .returned (.tuple #[.pointer none, .int .i64 2]) ∧ Kp No w0 w') ∨
    (argOk id size win ∧ ∃ b pp kk, e = .returned (.tuple #[.pointer (some ⟨b, 0, none⟩), .int .i64 0]) ∧ St No w0 w' [sndA b (newN id size.toNat l win) pp kk, sndR (newN id size.toNat l win) pp kk]) := by
  have st : St No w0 w0 [] := St.start w0
  obtain ⟨i0, hi0, hz0, hs0, hb0⟩ := info_at infoStr
  refine topen_ok _ _ _ _ _ _ ?_
  unfold topen
  repeat' first
    | (with_reducible refine St.alloc st ?_; (try clear st); intro b w st)
    | with_reducible refine sz_and (by (repeat rw [ByteArray.size_append]); omega) ?_
    | (refine Pu.go (within_pu _ _ _) st ?_; (try clear st); intro w st; refine ⟨_, rfl, ?_⟩)
    | (with_reducible apply ex0c; case h => first | exact St.cell st 0 rfl rfl | exact St.cell st 1 rfl rfl | exact St.cell st 2 rfl rfl | exact St.cell st 3 rfl rfl | fail)
    | (with_reducible apply ex1c; case h => first | exact St.cell st 0 rfl rfl | exact St.cell st 1 rfl rfl | exact St.cell st 2 rfl rfl | exact St.cell st 3 rfl rfl | fail)
    | (with_reducible apply ex3c; case h => first | exact St.cell st 0 rfl rfl | exact St.cell st 1 rfl rfl | exact St.cell st 2 rfl rfl | exact St.cell st 3 rfl rfl | fail)
    | (with_reducible apply ex0r; case h => first | exact St.rows st 0 rfl | exact St.rows st 1 rfl | exact St.rows st 2 rfl | exact St.rows st 3 rfl | fail)
    | (with_reducible apply exr2; case h => first | exact St.rows st 0 rfl | exact St.rows st 1 rfl | exact St.rows st 2 rfl | exact St.rows st 3 rfl | fail)
    | (with_reducible apply exr3; case h => first | exact St.rows st 0 rfl | exact St.rows st 1 rfl | exact St.rows st 2 rfl | exact St.rows st 3 rfl | fail)
    | (with_reducible apply exr4; case h => first | exact St.rows st 0 rfl | exact St.rows st 1 rfl | exact St.rows st 2 rfl | exact St.rows st 3 rfl | fail)
    | (with_reducible apply exr5; case h => first | exact St.rows st 0 rfl | exact St.rows st 1 rfl | exact St.rows st 2 rfl | exact St.rows st 3 rfl | fail)
    | (with_reducible apply exr6; case h => first | exact St.rows st 0 rfl | exact St.rows st 1 rfl | exact St.rows st 2 rfl | exact St.rows st 3 rfl | fail)
    | (with_reducible apply exWr; case h => first | exact St.wr st 0 rfl rfl | exact St.wr st 1 rfl rfl | exact St.wr st 2 rfl rfl | exact St.wr st 3 rfl rfl | fail)
    | (with_reducible apply exWrRow; case h => first | exact St.wrRow st 0 rfl rfl rfl | exact St.wrRow st 1 rfl rfl rfl | exact St.wrRow st 2 rfl rfl rfl | exact St.wrRow st 3 rfl rfl rfl | fail)
    | (with_reducible refine LetW.cell ?_; (first | refine St.store st 0 rfl ?_ | refine St.store st 1 rfl ?_ | refine St.store st 2 rfl ?_ | refine St.store st 3 rfl ?_ | fail); (try clear st); intro w st; simp only [List.set] at st)
    | (with_reducible refine LetW.rows ?_; (first | refine St.storeRow st 0 rfl ?_ | refine St.storeRow st 1 rfl ?_ | refine St.storeRow st 2 rfl ?_ | refine St.storeRow st 3 rfl ?_ | fail); (try clear st); intro w st; simp only [List.set, setsL] at st)
    | ((with_reducible apply exr4); case h => first | exact St.rowAt st 0 rfl rfl | exact St.rowAt st 1 rfl rfl | exact St.rowAt st 2 rfl rfl | exact St.rowAt st 3 rfl rfl | fail)
    | ((with_reducible apply exr5); case h => first | exact St.rowAt st 0 rfl rfl | exact St.rowAt st 1 rfl rfl | exact St.rowAt st 2 rfl rfl | exact St.rowAt st 3 rfl rfl | fail)
    | ((with_reducible apply exr6); case h => first | exact St.rowAt st 0 rfl rfl | exact St.rowAt st 1 rfl rfl | exact St.rowAt st 2 rfl rfl | exact St.rowAt st 3 rfl rfl | fail)
    | with_reducible refine LetI.id (by omega) (by omega) ?_
    | contradiction
    | with_reducible refine Br.dec (fun h => ?_) (fun h => ?_)
    | with_reducible refine Br.eqi (fun h => ?_) (fun h => ?_)
    | with_reducible refine Br.nei (fun h => ?_) (fun h => ?_)
    | with_reducible refine Br.eqs' (fun h => ?_) (fun h => ?_)
    | with_reducible refine Br.eqs (fun h => ?_) (fun h => ?_)
    | with_reducible refine Br.not ?_
    | with_reducible refine Br.and_ ?_
    | with_reducible refine Br.sure rfl ?_
    | with_reducible refine Br.nay rfl ?_
    | with_reducible refine Br.eqb (fun h => ?_) (fun h => ?_)
    | with_reducible refine Br.bool (fun h => ?_) (fun h => ?_)
    | fail
  all_goals try exact .inl ⟨fun hh => by first | exact absurd hh.1 (by assumption) | exact absurd hh.2.1 (by assumption) | exact absurd hh.2.2 (by assumption), rfl, st.kp⟩
  have ho : argOk id size win := ⟨by assumption, by assumption, by assumption⟩
  have hs1 := ho.2.1
  unfold inB at hs1
  obtain ⟨sz, rfl⟩ : ∃ n : Nat, size = (n : Int) := ⟨size.toNat, by omega⟩
  have hT : (newN id sz l win).total = cnt sz l.length := rfl
  have hlc := fun k => lt_cnt (size := sz) (len := l.length) (k := k) (by omega)
  have hfew := (newN_ok (l := l) ho hl).few
  simp only [Int.toNat_natCast] at hfew
  rw [hT] at hfew
  have hmsz : (mk l).size = l.length := rfl
  refine LetI.id (by omega) (by omega) (Br.dec (fun h => by omega) (fun _ => ?_))
  refine St.alloc st ?_; clear st; intro b w st
  refine St.toBytes st Try.underlying9 Try.underlying65 Try.underlying5 ?_
  clear st
  intro g cb w hcb st
  refine ⟨_, _, _, rfl, fun m v w' => ∃ (j : Nat) (pp : Option Addr) (kk : Nat), v = [.int .i64 ((j * sz : Nat) : Int)] ∧ m = cnt sz l.length - j ∧ j ≤ cnt sz l.length ∧ St No w0 w' [.row 0 9 1 (.slice pp j kk) j (cellsOf strE (firstOf sz l j)), byteA g l, .blk b 64 [.int .i64 id, .slice pp j kk, .int .i64 win, .int .i64 0, .int .i64 0]], ⟨_, 0, none, 0, by simp, rfl, Nat.zero_le _, st.nil0 _ _⟩, ?_⟩
  clear st
  rintro _ _ w ⟨j, pp, kk, hv, rfl, hj, st⟩
  have hv2 := (List.cons.inj hv).1
  injection hv2 with _ hv3
  subst hv3
  clear hv
  have hbig : j * sz ≤ 1001 * 512 := Nat.mul_le_mul (by omega) (by omega)
  apply later (T := (j < cnt sz l.length) → _)
  · intro tail
    refine Br.dec (fun h1 => tail ((hlc j).2 (.inl (by omega)))) (fun h1 => Br.eqi (fun h2 => ?_) (fun h2 => ?_))
    · have hj0 : j = 0 := by
        rcases Nat.eq_zero_or_pos j with h | h
        · exact h
        · have : 1 * 1 ≤ j * sz := Nat.mul_le_mul h (by omega)
          omega
      exact tail ((hlc j).2 (.inr hj0))
    · have hjc : j = cnt sz l.length := by
        have hno : ¬ j < cnt sz l.length := fun hc => by
          rcases (hlc j).1 hc with h | h
          · exact h1 (by omega)
          · subst h; exact h2 (by simp)
        omega
      subst hjc
      refine .inr ⟨ho, b, pp, kk, rfl, ?_⟩
      have st2 : St No w0 w [_, _] := st.pick [2, 0] rfl (by decide)
      exact st2
  · intro hjl
    refine LetI.id (by omega) (by omega) (LetI.of ?_)
    have hcut := pieceOf_cut sz l j
    have hto : min ((j * sz : Nat) + sz : Int) (l.length : Int) = ((min (j * sz + sz) l.length : Nat) : Int) := by omega
    have hle : j * sz ≤ l.length := by
      rcases (hlc j).1 hjl with h | h
      · omega
      · subst h; simp
    rw [hto]
    refine ⟨_, _, _, st.cell 2 rfl rfl, ⟨by omega, by omega, by omega, by omega, fun _ => rfl⟩, ?_⟩
    simp only [Int.toNat_natCast, sizeByte]
    have hby : BytesAt w ((⟨g, 0, none⟩ : Addr).add (j * sz)) (pieceOf sz l j) := (st.hold 1 _ rfl).2.cut (j * sz) sz
    have hpl : (pieceOf sz l j).length = min (j * sz + sz) l.length - j * sz := by rw [hcut, List.length_drop, List.length_take]; omega
    obtain ⟨a', ha', hby'⟩ : ∃ a', (if min (j * sz + sz) l.length = j * sz then (some (⟨g, 0, none⟩ : Addr)) else (some (⟨g, 0, none⟩ : Addr)).map (fun x => x.add (j * sz * 1))) = some a' ∧ BytesAt w a' (pieceOf sz l j) := by
      by_cases he : min (j * sz + sz) l.length = j * sz
      · rw [if_pos he]
        refine ⟨_, rfl, fun q hq => ?_⟩
        rw [hpl] at hq; omega
      · rw [if_neg he]
        exact ⟨_, rfl, by rw [Nat.mul_one]; exact hby⟩
    rw [ha']
    refine RunsV.toStr Try.underlying65 Try.underlying5 Try.underlying9 hpl.symm hby' ?_
    refine ⟨_, rfl, st.cell 2 rfl rfl, ?_⟩
    refine St.alloc st ?_; clear st; intro bx w st
    refine ⟨st.cell 3 rfl rfl, ?_⟩
    refine St.append10 st 1 0 Try.underlying59 hi0 hz0 hs0 hb0 rfl (by decide) strE_len strE_plain (x := pieceOf sz l j) rfl rfl (by simp [maxLen]; omega) (by omega) ?_
    clear st
    intro p' c' w st
    simp only [List.set] at st
    rw [← firstOf_succ] at st
    refine ⟨_, _, _, rfl, ?_⟩
    repeat' first
      | (with_reducible refine St.alloc st ?_; (try clear st); intro b w st)
      | with_reducible refine sz_and (by (repeat rw [ByteArray.size_append]); omega) ?_
      | (with_reducible apply ex0c; case h => first | exact St.cell st 0 rfl rfl | exact St.cell st 1 rfl rfl | exact St.cell st 2 rfl rfl | exact St.cell st 3 rfl rfl | fail)
      | (with_reducible apply ex1c; case h => first | exact St.cell st 0 rfl rfl | exact St.cell st 1 rfl rfl | exact St.cell st 2 rfl rfl | exact St.cell st 3 rfl rfl | fail)
      | (with_reducible apply ex3c; case h => first | exact St.cell st 0 rfl rfl | exact St.cell st 1 rfl rfl | exact St.cell st 2 rfl rfl | exact St.cell st 3 rfl rfl | fail)
      | (with_reducible apply ex0r; case h => first | exact St.rows st 0 rfl | exact St.rows st 1 rfl | exact St.rows st 2 rfl | exact St.rows st 3 rfl | fail)
      | (with_reducible apply exr2; case h => first | exact St.rows st 0 rfl | exact St.rows st 1 rfl | exact St.rows st 2 rfl | exact St.rows st 3 rfl | fail)
      | (with_reducible apply exr3; case h => first | exact St.rows st 0 rfl | exact St.rows st 1 rfl | exact St.rows st 2 rfl | exact St.rows st 3 rfl | fail)
      | (with_reducible apply exr4; case h => first | exact St.rows st 0 rfl | exact St.rows st 1 rfl | exact St.rows st 2 rfl | exact St.rows st 3 rfl | fail)
      | (with_reducible apply exr5; case h => first | exact St.rows st 0 rfl | exact St.rows st 1 rfl | exact St.rows st 2 rfl | exact St.rows st 3 rfl | fail)
      | (with_reducible apply exr6; case h => first | exact St.rows st 0 rfl | exact St.rows st 1 rfl | exact St.rows st 2 rfl | exact St.rows st 3 rfl | fail)
      | (with_reducible apply exWr; case h => first | exact St.wr st 0 rfl rfl | exact St.wr st 1 rfl rfl | exact St.wr st 2 rfl rfl | exact St.wr st 3 rfl rfl | fail)
      | (with_reducible apply exWrRow; case h => first | exact St.wrRow st 0 rfl rfl rfl | exact St.wrRow st 1 rfl rfl rfl | exact St.wrRow st 2 rfl rfl rfl | exact St.wrRow st 3 rfl rfl rfl | fail)
      | (with_reducible refine LetW.cell ?_; (first | refine St.store st 0 rfl ?_ | refine St.store st 1 rfl ?_ | refine St.store st 2 rfl ?_ | refine St.store st 3 rfl ?_ | fail); (try clear st); intro w st; simp only [List.set] at st)
      | (with_reducible refine LetW.rows ?_; (first | refine St.storeRow st 0 rfl ?_ | refine St.storeRow st 1 rfl ?_ | refine St.storeRow st 2 rfl ?_ | refine St.storeRow st 3 rfl ?_ | fail); (try clear st); intro w st; simp only [List.set, setsL] at st)
      | ((with_reducible apply exr4); case h => first | exact St.rowAt st 0 rfl rfl | exact St.rowAt st 1 rfl rfl | exact St.rowAt st 2 rfl rfl | exact St.rowAt st 3 rfl rfl | fail)
      | ((with_reducible apply exr5); case h => first | exact St.rowAt st 0 rfl rfl | exact St.rowAt st 1 rfl rfl | exact St.rowAt st 2 rfl rfl | exact St.rowAt st 3 rfl rfl | fail)
      | ((with_reducible apply exr6); case h => first | exact St.rowAt st 0 rfl rfl | exact St.rowAt st 1 rfl rfl | exact St.rowAt st 2 rfl rfl | exact St.rowAt st 3 rfl rfl | fail)
      | with_reducible refine LetI.id (by omega) (by omega) ?_
      | fail
    refine ⟨_, ?_, j + 1, p', c', ?_, rfl, hjl, st.pick [1, 2, 3] rfl (by decide)⟩
    · omega
    · rw [Nat.succ_mul]; simp
end Go.Proofs.Ytdiejbojobbboaa
