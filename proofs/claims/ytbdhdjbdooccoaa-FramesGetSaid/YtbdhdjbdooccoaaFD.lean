/- Package frames: Get: the contract. -/
import Derived.Test.YtbdhdjbdooccoaaFC
import Derived.Test.YtbdhdjbdooccoaaDF2
namespace Go.Proofs.Ytbdhdjbdooccoaa
open Go.Vc Go.Codec

theorem fnumber_tu {b : Nat} {s : List UInt8} {ok : Bool} (hs : s.length ≤ 1099511627776) :
    Tu Try.prog 74 #[.pointer (some ⟨b, 0, none⟩)] (.blk b 87 [.string (mk s), .bool ok]) (.blk b 87 [.string (mk (unN s).2.1), .bool (ok && (unN s).2.2)]) (.int .i64 (unN s).1) := by
  intro w0 hA
  have st : St (One b) w0 w0 [.blk b 87 [.string (mk s), .bool ok]] := St.start1 hA (fun _ h => h)
  refine fnumber_ok _ _ _ ?_
  unfold fnumber
  repeat' first
    | (with_reducible refine St.alloc st ?_; (try clear st); intro b w st)
    | with_reducible refine sz_and (by (repeat rw [ByteArray.size_append]); omega) ?_
    | (refine Pu.go (unint_pu hs) st ?_; (try clear st); intro w st; refine ⟨_, _, _, rfl, ?_⟩)
    | (with_reducible apply ex0c; case h => first | exact St.cell st 0 rfl rfl | exact St.cell st 1 rfl rfl | exact St.cell st 2 rfl rfl | exact St.cell st 3 rfl rfl | fail)
    | (with_reducible apply ex1c; case h => first | exact St.cell st 0 rfl rfl | exact St.cell st 1 rfl rfl | exact St.cell st 2 rfl rfl | exact St.cell st 3 rfl rfl | fail)
    | (with_reducible apply ex3c; case h => first | exact St.cell st 0 rfl rfl | exact St.cell st 1 rfl rfl | exact St.cell st 2 rfl rfl | exact St.cell st 3 rfl rfl | fail)
    | (with_reducible apply ex0r; case h => first | exact St.rows st 0 rfl | exact St.rows st 1 rfl | exact St.rows st 2 rfl | exact St.rows st 3 rfl | fail)
    | (with_reducible apply exr2; case h => first | exact St.rows st 0 rfl | exact St.rows st 1 rfl | exact St.rows st 2 rfl | exact St.rows st 3 rfl | fail)
    | (with_reducible apply exr3; case h => first | exact St.rows st 0 rfl | exact St.rows st 1 rfl | exact St.rows st 2 rfl | exact St.rows st 3 rfl | fail)
    | (with_reducible apply exr4; case h => first | exact St.rows st 0 rfl | exact St.rows st 1 rfl | exact St.rows st 2 rfl | exact St.rows st 3 rfl | fail)
    | (with_reducible apply exr5; case h => first | exact St.rows st 0 rfl | exact St.rows st 1 rfl | exact St.rows st 2 rfl | exact St.rows st 3 rfl | fail)
    | (with_reducible apply exr6; case h => first | exact St.rows st 0 rfl | exact St.rows st 1 rfl | exact St.rows st 2 rfl | exact St.rows st 3 rfl | fail)
    | (with_reducible apply exWr; case h => first | exact St.wr st 0 rfl rfl | exact St.wr st 1 rfl rfl | exact St.wr st 2 rfl rfl | exact St.wr st 3 rfl rfl | fail)
    | (with_reducible apply exWrRow; case h => first | exact St.wrRow st 0 rfl rfl rfl | exact St.wrRow st 1 rfl rfl rfl | exact St.wrRow st 2 rfl rfl rfl | exact St.wrRow st 3 rfl rfl rfl | fail)
    | (with_reducible refine LetW.cell ?_; (first | refine St.store st 0 rfl ?_ | refine St.store st 1 rfl ?_ | refine St.store st 2 rfl ?_ | refine St.store st 3 rfl ?_ | fail); (try clear st); intro w st; simp only [List.set] at st)
    | (with_reducible refine LetW.rows ?_; (first | refine St.storeRow st 0 rfl ?_ | refine St.storeRow st 1 rfl ?_ | refine St.storeRow st 2 rfl ?_ | refine St.storeRow st 3 rfl ?_ | fail); (try clear st); intro w st; simp only [List.set, setsL] at st)
    | ((with_reducible apply exr4); case h => first | exact St.rowAt st 0 rfl rfl | exact St.rowAt st 1 rfl rfl | exact St.rowAt st 2 rfl rfl | exact St.rowAt st 3 rfl rfl | fail)
    | ((with_reducible apply exr5); case h => first | exact St.rowAt st 0 rfl rfl | exact St.rowAt st 1 rfl rfl | exact St.rowAt st 2 rfl rfl | exact St.rowAt st 3 rfl rfl | fail)
    | ((with_reducible apply exr6); case h => first | exact St.rowAt st 0 rfl rfl | exact St.rowAt st 1 rfl rfl | exact St.rowAt st 2 rfl rfl | exact St.rowAt st 3 rfl rfl | fail)
    | with_reducible refine LetI.id (by omega) (by omega) ?_
    | with_reducible refine Br.dec (fun h => ?_) (fun h => ?_)
    | with_reducible refine Br.eqi (fun h => ?_) (fun h => ?_)
    | with_reducible refine Br.nei (fun h => ?_) (fun h => ?_)
    | with_reducible refine Br.eqs' (fun h => ?_) (fun h => ?_)
    | with_reducible refine Br.eqs (fun h => ?_) (fun h => ?_)
    | with_reducible refine Br.not ?_
    | with_reducible refine Br.and_ ?_
    | with_reducible refine Br.sure rfl ?_
    | with_reducible refine Br.nay rfl ?_
    | with_reducible refine Br.eqb (fun h => ?_) (fun h => ?_)
    | with_reducible refine Br.bool (fun h => ?_) (fun h => ?_)
    | fail
  · subst h; exact ⟨rfl, st.hold 0 _ rfl, st.kp⟩
  · subst h; exact ⟨rfl, st.hold 0 _ rfl, st.kp⟩

theorem ftext_tu {b : Nat} {s : List UInt8} {ok : Bool} (hs : s.length ≤ 1099511627776) :
    Tu Try.prog 77 #[.pointer (some ⟨b, 0, none⟩)] (.blk b 87 [.string (mk s), .bool ok]) (.blk b 87 [.string (mk (cutN s).2.1), .bool (ok && (cutN s).2.2)]) (.string (mk (cutN s).1)) := by
  intro w0 hA
  have st : St (One b) w0 w0 [.blk b 87 [.string (mk s), .bool ok]] := St.start1 hA (fun _ h => h)
  refine ftext_ok _ _ _ ?_
  unfold ftext
  repeat' first
    | (with_reducible refine St.alloc st ?_; (try clear st); intro b w st)
    | with_reducible refine sz_and (by (repeat rw [ByteArray.size_append]); omega) ?_
    | (refine Pu.go (cut_pu hs) st ?_; (try clear st); intro w st; refine ⟨_, _, _, rfl, ?_⟩)
    | (with_reducible apply ex0c; case h => first | exact St.cell st 0 rfl rfl | exact St.cell st 1 rfl rfl | exact St.cell st 2 rfl rfl | exact St.cell st 3 rfl rfl | fail)
    | (with_reducible apply ex1c; case h => first | exact St.cell st 0 rfl rfl | exact St.cell st 1 rfl rfl | exact St.cell st 2 rfl rfl | exact St.cell st 3 rfl rfl | fail)
    | (with_reducible apply ex3c; case h => first | exact St.cell st 0 rfl rfl | exact St.cell st 1 rfl rfl | exact St.cell st 2 rfl rfl | exact St.cell st 3 rfl rfl | fail)
    | (with_reducible apply ex0r; case h => first | exact St.rows st 0 rfl | exact St.rows st 1 rfl | exact St.rows st 2 rfl | exact St.rows st 3 rfl | fail)
    | (with_reducible apply exr2; case h => first | exact St.rows st 0 rfl | exact St.rows st 1 rfl | exact St.rows st 2 rfl | exact St.rows st 3 rfl | fail)
    | (with_reducible apply exr3; case h => first | exact St.rows st 0 rfl | exact St.rows st 1 rfl | exact St.rows st 2 rfl | exact St.rows st 3 rfl | fail)
    | (with_reducible apply exr4; case h => first | exact St.rows st 0 rfl | exact St.rows st 1 rfl | exact St.rows st 2 rfl | exact St.rows st 3 rfl | fail)
    | (with_reducible apply exr5; case h => first | exact St.rows st 0 rfl | exact St.rows st 1 rfl | exact St.rows st 2 rfl | exact St.rows st 3 rfl | fail)
    | (with_reducible apply exr6; case h => first | exact St.rows st 0 rfl | exact St.rows st 1 rfl | exact St.rows st 2 rfl | exact St.rows st 3 rfl | fail)
    | (with_reducible apply exWr; case h => first | exact St.wr st 0 rfl rfl | exact St.wr st 1 rfl rfl | exact St.wr st 2 rfl rfl | exact St.wr st 3 rfl rfl | fail)
    | (with_reducible apply exWrRow; case h => first | exact St.wrRow st 0 rfl rfl rfl | exact St.wrRow st 1 rfl rfl rfl | exact St.wrRow st 2 rfl rfl rfl | exact St.wrRow st 3 rfl rfl rfl | fail)
    | (with_reducible refine LetW.cell ?_; (first | refine St.store st 0 rfl ?_ | refine St.store st 1 rfl ?_ | refine St.store st 2 rfl ?_ | refine St.store st 3 rfl ?_ | fail); (try clear st); intro w st; simp only [List.set] at st)
    | (with_reducible refine LetW.rows ?_; (first | refine St.storeRow st 0 rfl ?_ | refine St.storeRow st 1 rfl ?_ | refine St.storeRow st 2 rfl ?_ | refine St.storeRow st 3 rfl ?_ | fail); (try clear st); intro w st; simp only [List.set, setsL] at st)
    | ((with_reducible apply exr4); case h => first | exact St.rowAt st 0 rfl rfl | exact St.rowAt st 1 rfl rfl | exact St.rowAt st 2 rfl rfl | exact St.rowAt st 3 rfl rfl | fail)
    | ((with_reducible apply exr5); case h => first | exact St.rowAt st 0 rfl rfl | exact St.rowAt st 1 rfl rfl | exact St.rowAt st 2 rfl rfl | exact St.rowAt st 3 rfl rfl | fail)
    | ((with_reducible apply exr6); case h => first | exact St.rowAt st 0 rfl rfl | exact St.rowAt st 1 rfl rfl | exact St.rowAt st 2 rfl rfl | exact St.rowAt st 3 rfl rfl | fail)
    | with_reducible refine LetI.id (by omega) (by omega) ?_
    | with_reducible refine Br.dec (fun h => ?_) (fun h => ?_)
    | with_reducible refine Br.eqi (fun h => ?_) (fun h => ?_)
    | with_reducible refine Br.nei (fun h => ?_) (fun h => ?_)
    | with_reducible refine Br.eqs' (fun h => ?_) (fun h => ?_)
    | with_reducible refine Br.eqs (fun h => ?_) (fun h => ?_)
    | with_reducible refine Br.not ?_
    | with_reducible refine Br.and_ ?_
    | with_reducible refine Br.sure rfl ?_
    | with_reducible refine Br.nay rfl ?_
    | with_reducible refine Br.eqb (fun h => ?_) (fun h => ?_)
    | with_reducible refine Br.bool (fun h => ?_) (fun h => ?_)
    | fail
  · subst h; exact ⟨rfl, st.hold 0 _ rfl, st.kp⟩
  · subst h; exact ⟨rfl, st.hold 0 _ rfl, st.kp⟩

theorem fop_tu {b : Nat} {s : List UInt8} {ok : Bool} (hs : s.length ≤ 1099511627776) :
    Tu Try.prog 76 #[.pointer (some ⟨b, 0, none⟩)] (.blk b 87 [.string (mk s), .bool ok]) (.blk b 87 [.string (mk []), .bool (ok && decide ((getO s).2 = 0))]) (opV (getO s).1) := by
  intro w0 hA
  have st : St (Atom.blk b 87 [.string (mk s), .bool ok]).foot w0 w0 [.blk b 87 [.string (mk s), .bool ok]] := St.start1 hA fun _ hg => hg
  refine fop_ok _ _ _ ?_
  unfold fop
  refine St.alloc st ?_; clear st; intro b2 w st
  refine ⟨_, st.cell 1 rfl rfl, ?_⟩
  refine Pu.go (oget_pu hs) st ?_; clear st; intro w st
  refine ⟨_, _, _, _, _, rfl, ?_⟩
  refine St.alloc st ?_; clear st; intro b12 w st
  refine ⟨st.wrRow 0 rfl rfl rfl, ?_⟩
  refine St.storeRow st 0 rfl ?_
  clear st
  intro w st
  simp only [List.set, setsL] at st
  refine ⟨_, st.cell 2 rfl rfl, Br.bool (fun h => ?_) (fun h => ?_)⟩
  · refine ⟨st.wr 2 rfl rfl, ?_⟩
    refine St.store st 2 rfl ?_; clear st; intro w st; simp only [List.set] at st
    refine ⟨st.wr 2 rfl rfl, ?_⟩
    refine St.store st 2 rfl ?_; clear st; intro w st; simp only [List.set] at st
    refine ⟨_, _, _, _, st.rowAt 0 rfl rfl, st.wrRow 1 rfl rfl rfl, ?_⟩
    refine St.storeRow st 1 rfl ?_; clear st; intro w st; simp only [List.set, setsL] at st
    refine ⟨_, _, _, _, st.rowAt 1 rfl rfl, ?_⟩
    rw [h, Bool.true_and]
    exact ⟨rfl, st.hold 2 _ rfl, st.kp⟩
  · refine ⟨st.wr 2 rfl rfl, ?_⟩
    refine St.store st 2 rfl ?_; clear st; intro w st; simp only [List.set] at st
    refine ⟨st.wr 2 rfl rfl, ?_⟩
    refine St.store st 2 rfl ?_; clear st; intro w st; simp only [List.set] at st
    refine ⟨_, _, _, _, st.rowAt 0 rfl rfl, st.wrRow 1 rfl rfl rfl, ?_⟩
    refine St.storeRow st 1 rfl ?_; clear st; intro w st; simp only [List.set, setsL] at st
    refine ⟨_, _, _, _, st.rowAt 1 rfl rfl, ?_⟩
    rw [h, Bool.false_and]
    exact ⟨rfl, st.hold 2 _ rfl, st.kp⟩
theorem nums_len : ∀ (l : List Nat) (r : Rdr Frm), (rdNums r l).s.length ≤ r.s.length
  | [], _ => Nat.le_refl _
  | i :: l, r => Nat.le_trans (nums_len l (r.num i)) (un_len r.s)
theorem head_len (s : List UInt8) : (rdHead s).s.length ≤ s.length := Nat.le_trans (nums_len _ _) (un_len s)
theorem head_res (s : List UInt8) : (rdHead s).v.res = .none ∧ (rdHead s).v.ch = .none := by
  obtain ⟨_, h2, _, h4, _⟩ := nums_in (numsF (unN s).1) (rdKind s)
  exact ⟨h2, h4⟩
theorem frmP_res (s : List UInt8) : (frmP s).res.val.length ≤ s.length := by
  unfold frmP rdAll
  have h := (head_res s).1
  have hl := head_len s
  have hz : (rdHead s).v.res.val.length ≤ s.length := by rw [h]; exact Nat.zero_le _
  split
  · exact hz
  · split
    · have h1 := (cut_len (u1 (rdHead s).s)).1
      have h2 := un_len (rdHead s).s
      show (cutN (u1 (rdHead s).s)).1.length ≤ _
      unfold u1 at h1 ⊢
      omega
    · split
      · exact hz
      · split <;> exact hz
theorem getF_not {s : List UInt8} (h : ¬ (s.length ≤ 512 ∧ putF (frmP s) = (s, 0))) : getF s = (.zero 0, 10) := by unfold getF; rw [if_neg h]
abbrev rdB (b : Nat) (s : List UInt8) (ok : Bool) : Atom := .blk b 87 [.string (mk s), .bool ok]
set_option maxRecDepth 100000 in
set_option maxHeartbeats 8000000 in
theorem fget_ca {w0 : World} {s : List UInt8} (hs : s.length ≤ 1099511627776) :
    Ca Try.prog 45 #[.string (mk s)] w0 fun e w' => ∃ p' k', e = .returned (.tuple #[frmV (getF s).1 p' k', .int .i64 (getF s).2]) ∧ St No w0 w' [memR (getF s).1.ch.mem p' k'] := by
  have st : St No w0 w0 [] := St.start w0
  have e1 : (mk s).size = s.length := rfl
  refine fget_ok _ _ _ ?_
  unfold fget
  refine St.alloc st ?_; clear st; intro b2 w st
  replace st : St No w0 w [frmB b2 (.zero 0) none 0] := st
  have hnone : ∀ (S : Nat → Prop) (w : World), S = No → getF s = (.zero 0, 10) → St S w0 w [frmB b2 (.zero 0) none 0] → ∃ p' k', Ending.returned (.tuple #[frmV (.zero 0) none 0, .int .i64 10]) = .returned (.tuple #[frmV (getF s).1 p' k', .int .i64 (getF s).2]) ∧ St S w0 w [memR (getF s).1.ch.mem p' k'] := by
    intro S w hS h st
    rw [h]
    exact ⟨none, 0, rfl, (st.nil0 43 2).pick [0] rfl (by decide)⟩
  refine Br.dec (fun h0 => ?_) (fun h0 => ?_)
  · refine ⟨st.wrRow 0 rfl rfl rfl, ?_⟩
    refine St.storeRow st 0 rfl ?_
    clear st
    intro w st
    replace st : St No w0 w [frmB b2 (.zero 0) none 0] := by
      rw [setsL_all] at st
      · exact st
      · rfl
    refine ⟨_, _, _, _, _, _, _, _, _, _, _, _, _, _, _, _, _, _, _, _, _, _, _, _, _, _, _, _, _, _, _, st.rowAt 0 rfl rfl, ?_⟩
    exact hnone _ _ rfl (getF_not (fun hh => by have := hh.1; omega)) st
  refine St.alloc st ?_; clear st; intro b36 w st
  refine Tu.go (fnumber_tu hs) st 0 rfl (fun _ hg => hg) ?_; clear st; intro w st; simp only [List.set] at st
  refine ⟨_, rfl, ?_⟩
  refine St.alloc st ?_; clear st; intro bg w st
  refine ⟨st.wrRow 0 rfl rfl rfl, ?_⟩
  refine St.storeRow st 0 rfl ?_
  clear st
  intro w st
  replace st : St No w0 w [frmB bg (rdKind s).v none 0, rdB b36 (rdKind s).s (rdKind s).ok, frmB b2 (.zero 0) none 0] := by
    rw [setsL_all] at st
    · exact st
    · rfl
  refine ⟨_, st.cell 0 rfl rfl, ?_⟩
  refine (fnumbers_ca (unN s).1 w).mono ?_
  rintro _ w1 ⟨pn, cn, rfl, ho, hk⟩
  replace st := st.pushRow0 hk ho (Nat.le_refl _)
  clear ho hk
  refine ⟨_, _, _, rfl, ?_⟩
  have hlen := numsF_len (unN s).1
  refine ⟨fun q v w' => ∃ (j : Nat) (r : Rdr Frm), v = [.int .i64 (j : Int)] ∧ q = (numsF (unN s).1).length - j ∧ j ≤ (numsF (unN s).1).length ∧ ((numsF (unN s).1).drop j).foldl Rdr.num r = rdHead s ∧ r.s.length ≤ s.length ∧ r.v.ch = .none ∧ St No w0 w' [fnR (numsF (unN s).1) pn cn, frmB bg r.v none r.v.ch.mem.length, rdB b36 r.s r.ok, frmB b2 (.zero 0) none 0], ⟨_, 0, rdKind s, rfl, rfl, by omega, rfl, un_len s, rfl, st⟩, ?_⟩
  clear st
  rintro _ _ w ⟨j, r, hv, rfl, hj, hr, hrl, hch, st⟩
  obtain rfl : _ = _ := by simpa using hv
  clear hv
  replace st : St No w0 w [fnR (numsF (unN s).1) pn cn, frmB bg r.v none 0, rdB b36 r.s r.ok, frmB b2 (.zero 0) none 0] := by rw [hch] at st; exact st
  refine Br.dec (fun h3 => ?_) (fun h3 => ?_)
  · have hjl : j < (numsF (unN s).1).length := by omega
    have hi := numsF_lt (List.getElem_mem hjl)
    obtain ⟨a, ha, hra⟩ := (ElAt.of_owns fnE_len (st.hold 0 _ rfl) rfl : FnAt w pn (numsF (unN s).1)) j hjl
    rw [List.drop_eq_getElem_cons hjl, List.foldl_cons] at hr
    refine NilOk.intro ha ⟨⟨by omega, by omega⟩, _, _, _, by simpa [addr_zero] using Row.get hra (j := 0) rfl, ?_⟩
    rw [fcallee hi]
    refine Br.sure rfl ?_
    refine Pu.go (ffield_pu hi bg) st ?_; clear st hra; intro w st
    refine ⟨_, rfl, ?_⟩
    refine Tu.go (fnumber_tu (by omega)) st 2 rfl (fun _ hg => hg) ?_; clear st; intro w st; simp only [List.set] at st
    refine ⟨_, rfl, ?_⟩
    refine NilOk.intro rfl ⟨st.wr 1 (i := offF (numsF (unN s).1)[j]) rfl (frm_at r.v none 0 hi), ?_⟩
    refine St.store st 1 rfl ?_
    clear st
    intro w st
    have e := frm_set r.v none 0 hi (unN r.s).1
    replace st : St No w0 w [_, .blk bg _ ((frmL r.v none 0).set (offF (numsF (unN s).1)[j]) (.int .i64 (unN r.s).1)), _, _] := st
    rw [e] at st
    have hc2 : (r.num (numsF (unN s).1)[j]).v.ch = .none := hch
    exact LetI.id (by omega) (by omega) ⟨_, by omega, j + 1, r.num (numsF (unN s).1)[j], by simp, rfl, by omega, hr, Nat.le_trans (un_len r.s) hrl, hc2, by rw [hc2]; exact st⟩
  · rw [List.drop_eq_nil_of_le (by omega)] at hr
    replace hr : r = rdHead s := hr
    have hfp : (rdAll r).1 = frmP s := by rw [hr]; rfl
    have hop : (rdAll r).2 = okP s := by rw [hr]; rfl
    refine ⟨fun v w' => ∃ (p' : Option Addr) (k' : Nat) (s' : List UInt8), St No w0 w' [frmB bg (frmP s) p' k', memR (frmP s).ch.mem p' k', rdB b36 s' (okP s), frmB b2 (.zero 0) none 0], ?_, ?_⟩
    · unfold rdAll at hfp hop
      refine ⟨_, st.cell 1 rfl rfl, Br.eqi (fun h1 => ?_) (fun h1 => ?_)⟩
      · rw [if_pos h1] at hfp hop
        refine Tu.go (fop_tu (by omega)) st 2 rfl (fun _ hg => hg) ?_; clear st; intro w st; simp only [List.set] at st
        refine ⟨_, _, _, _, rfl, st.wrRow 1 rfl rfl rfl, ?_⟩
        refine St.storeRow st 1 rfl ?_
        clear st
        intro w st
        replace st : St No w0 w [_, frmB bg (withOp r.v (getO r.s).1) none 0, _, _] := st
        refine ⟨none, 0, [], ?_⟩
        have hc : (frmP s).ch.mem = [] := by rw [← hfp]; show r.v.ch.mem = _; rw [hch]; rfl
        rw [hc, ← hfp, ← hop]
        exact (st.nil0 43 2).pick [2, 0, 3, 4] rfl (by decide)
      rw [if_neg h1] at hfp hop
      refine Br.eqi (fun h2 => ?_) (fun h2 => ?_)
      · rw [if_pos h2] at hfp hop
        have l1 := un_len r.s
        have l2 := (cut_len (unN r.s).2.1).2
        have l3 := un_len (cutN (unN r.s).2.1).2.1
        refine Tu.go (fnumber_tu (by omega)) st 2 rfl (fun _ hg => hg) ?_; clear st; intro w st; simp only [List.set] at st
        refine ⟨_, rfl, ?_⟩
        refine Tu.go (ftext_tu (by omega)) st 2 rfl (fun _ hg => hg) ?_; clear st; intro w st; simp only [List.set] at st
        refine ⟨_, rfl, ?_⟩
        refine Tu.go (fnumber_tu (by omega)) st 2 rfl (fun _ hg => hg) ?_; clear st; intro w st; simp only [List.set] at st
        refine ⟨_, rfl, ?_⟩
        refine Tu.go (fnumber_tu (by omega)) st 2 rfl (fun _ hg => hg) ?_; clear st; intro w st; simp only [List.set] at st
        refine ⟨_, rfl, st.wrRow 1 rfl rfl rfl, ?_⟩
        refine St.storeRow st 1 rfl ?_
        clear st
        intro w st
        replace st : St No w0 w [_, frmB bg (withRes r.v (rdRes r.s)) none 0, _, _] := st
        have hb : (r.ok && okRes r.s) = ((((r.ok && (unN r.s).2.2) && (cutN (unN r.s).2.1).2.2) && (unN (cutN (unN r.s).2.1).2.1).2.2) && (unN (unN (cutN (unN r.s).2.1).2.1).2.1).2.2) := by
          unfold okRes u1
          simp only [Bool.and_assoc]
        rw [← hb] at st
        refine ⟨none, 0, (unN (unN (cutN (unN r.s).2.1).2.1).2.1).2.1, ?_⟩
        have hc : (frmP s).ch.mem = [] := by rw [← hfp]; show r.v.ch.mem = _; rw [hch]; rfl
        rw [hc, ← hfp, ← hop]
        exact (st.nil0 43 2).pick [2, 0, 3, 4] rfl (by decide)
      rw [if_neg h2] at hfp hop
      refine Br.eqi (fun h4 => ?_) (fun h4 => ?_)
      · rw [if_pos h4] at hfp hop
        have l1 := un_len r.s
        have l2 := un_len (unN r.s).2.1
        have l3 := un_len (unN (unN r.s).2.1).2.1
        refine Tu.go (fnumber_tu (by omega)) st 2 rfl (fun _ hg => hg) ?_; clear st; intro w st; simp only [List.set] at st
        refine ⟨_, rfl, ?_⟩
        refine Tu.go (fnumber_tu (by omega)) st 2 rfl (fun _ hg => hg) ?_; clear st; intro w st; simp only [List.set] at st
        refine ⟨_, rfl, ?_⟩
        refine Tu.go (fnumber_tu (by omega)) st 2 rfl (fun _ hg => hg) ?_; clear st; intro w st; simp only [List.set] at st
        refine ⟨_, rfl, ?_⟩
        refine Tu.go (fop_tu (by omega)) st 2 rfl (fun _ hg => hg) ?_; clear st; intro w st; simp only [List.set] at st
        refine ⟨_, _, _, _, rfl, st.wrRow 1 rfl rfl rfl, ?_⟩
        refine St.storeRow st 1 rfl ?_
        clear st
        intro w st
        replace st : St No w0 w [_, frmB bg (withEnt r.v (rdEnt r.s)) none 0, _, _] := st
        have hb : (r.ok && okEnt r.s) = ((((r.ok && (unN r.s).2.2) && (unN (unN r.s).2.1).2.2) && (unN (unN (unN r.s).2.1).2.1).2.2) && decide ((getO (unN (unN (unN r.s).2.1).2.1).2.1).2 = 0)) := by
          unfold okEnt u1
          simp only [Bool.and_assoc]
        rw [← hb] at st
        refine ⟨none, 0, [], ?_⟩
        have hc : (frmP s).ch.mem = [] := by rw [← hfp]; show r.v.ch.mem = _; rw [hch]; rfl
        rw [hc, ← hfp, ← hop]
        exact (st.nil0 43 2).pick [2, 0, 3, 4] rfl (by decide)
      rw [if_neg h4] at hfp hop
      refine Br.eqi (fun h8 => ?_) (fun h8 => ?_)
      · rw [if_pos h8] at hfp hop
        refine ⟨_, st.cell 2 rfl rfl, ?_⟩
        refine (cget_ca (s0 := r.s) (by omega)).mono ?_
        rintro _ w1 ⟨x, _, hx, rfl, p', k', rfl, ho, hk⟩
        obtain rfl : x = getC r.s := hx.unique (getC_is r.s)
        replace st := st.pushRow0 hk ho (Nat.le_refl _)
        clear ho hk hx
        refine ⟨_, _, _, _, _, _, rfl, ?_⟩
        refine St.alloc st ?_; clear st; intro bc w st
        refine ⟨st.wrRow 0 rfl rfl rfl, ?_⟩
        refine St.storeRow st 0 rfl ?_; clear st; intro w st; simp only [List.set, setsL] at st
        refine ⟨_, _, _, _, _, st.rowAt 0 rfl rfl, _, st.cell 4 rfl rfl, Br.bool (fun hok => ?_) (fun hok => ?_)⟩
        · refine ⟨st.wrRow 3 rfl rfl rfl, ?_⟩
          refine St.storeRow st 3 rfl ?_; clear st; intro w st
          replace st : St No w0 w [_, memR (getC r.s).1.mem p' k', _, frmB bg (withCh r.v (getC r.s).1) p' k', rdB b36 r.s r.ok, _] := st
          refine ⟨st.wr 4 rfl rfl, ?_⟩
          refine St.store st 4 rfl ?_; clear st; intro w st; simp only [List.set] at st
          refine ⟨st.wr 4 rfl rfl, ?_⟩
          refine St.store st 4 rfl ?_; clear st; intro w st; simp only [List.set] at st
          refine ⟨p', k', [], ?_⟩
          rw [← hfp, ← hop, hok, Bool.true_and]
          exact st.pick [3, 1, 4, 5] rfl (by decide)
        · refine ⟨st.wrRow 3 rfl rfl rfl, ?_⟩
          refine St.storeRow st 3 rfl ?_; clear st; intro w st
          replace st : St No w0 w [_, memR (getC r.s).1.mem p' k', _, frmB bg (withCh r.v (getC r.s).1) p' k', rdB b36 r.s r.ok, _] := st
          refine ⟨st.wr 4 rfl rfl, ?_⟩
          refine St.store st 4 rfl ?_; clear st; intro w st; simp only [List.set] at st
          refine ⟨st.wr 4 rfl rfl, ?_⟩
          refine St.store st 4 rfl ?_; clear st; intro w st; simp only [List.set] at st
          refine ⟨p', k', [], ?_⟩
          rw [← hfp, ← hop, hok, Bool.false_and]
          exact st.pick [3, 1, 4, 5] rfl (by decide)
      · rw [if_neg h8] at hfp hop
        refine ⟨none, 0, r.s, ?_⟩
        have hc : (frmP s).ch.mem = [] := by rw [← hfp]; show r.v.ch.mem = _; rw [hch]; rfl
        rw [hc, ← hfp, ← hop]
        exact (st.nil0 43 2).pick [2, 0, 3, 4] rfl (by decide)
    clear st
    rintro w ⟨p', k', s', st⟩
    have hres := frmP_res s
    refine ⟨_, _, _, _, _, _, _, _, _, _, _, _, _, _, _, _, _, _, _, _, _, _, _, _, _, _, _, _, _, _, _, st.rowAt 0 rfl rfl, ?_⟩
    refine Pw.go (fput_pw (f := frmP s) (ElAt.of_owns memE_len (st.hold 1 _ rfl) rfl) (by omega)) st ?_; clear st; intro w st
    refine ⟨_, _, rfl, _, st.cell 2 rfl rfl, ?_⟩
    refine Br.not (Br.bool (fun hok => ?_) (fun hok => ?_))
    · refine Br.nei (fun hc => ?_) (fun hc => ?_)
      · refine ⟨st.wrRow 3 rfl rfl rfl, ?_⟩
        refine St.storeRow st 3 rfl ?_
        clear st
        intro w st
        replace st : St No w0 w [frmB bg (frmP s) p' k', memR (frmP s).ch.mem p' k', rdB b36 s' (okP s), frmB b2 (.zero 0) none 0] := by
          rw [setsL_all] at st
          · exact st
          · rfl
        refine ⟨_, _, _, _, _, _, _, _, _, _, _, _, _, _, _, _, _, _, _, _, _, _, _, _, _, _, _, _, _, _, _, st.rowAt 3 rfl rfl, ?_⟩
        exact hnone _ _ rfl (getF_not (fun hh => hc (by rw [hh.2]))) (st.pick [3] rfl (by decide))
      · refine Br.not (Br.eqs' (fun hc2 => ?_) (fun hc2 => ?_))
        · have hp : putF (frmP s) = (s, 0) := Prod.ext hc2 hc
          have e : getF s = (frmP s, 0) := by unfold getF; rw [if_pos ⟨by omega, hp⟩]
          rw [e]
          refine ⟨_, _, _, _, _, _, _, _, _, _, _, _, _, _, _, _, _, _, _, _, _, _, _, _, _, _, _, _, _, _, _, st.rowAt 0 rfl rfl, st.wrRow 3 rfl rfl rfl, ?_⟩
          refine St.storeRow st 3 rfl ?_
          clear st
          intro w st
          replace st : St No w0 w [frmB bg (frmP s) p' k', memR (frmP s).ch.mem p' k', rdB b36 s' (okP s), frmB b2 (frmP s) p' k'] := by
            rw [setsL_all] at st
            · exact st
            · rfl
          refine ⟨_, _, _, _, _, _, _, _, _, _, _, _, _, _, _, _, _, _, _, _, _, _, _, _, _, _, _, _, _, _, _, st.rowAt 3 rfl rfl, ?_⟩
          exact ⟨p', k', rfl, st.pick [1] rfl (by decide)⟩
        · refine ⟨st.wrRow 3 rfl rfl rfl, ?_⟩
          refine St.storeRow st 3 rfl ?_
          clear st
          intro w st
          replace st : St No w0 w [frmB bg (frmP s) p' k', memR (frmP s).ch.mem p' k', rdB b36 s' (okP s), frmB b2 (.zero 0) none 0] := by
            rw [setsL_all] at st
            · exact st
            · rfl
          refine ⟨_, _, _, _, _, _, _, _, _, _, _, _, _, _, _, _, _, _, _, _, _, _, _, _, _, _, _, _, _, _, _, st.rowAt 3 rfl rfl, ?_⟩
          exact hnone _ _ rfl (getF_not (fun hh => hc2 (by rw [hh.2]))) (st.pick [3] rfl (by decide))
    · refine ⟨st.wrRow 3 rfl rfl rfl, ?_⟩
      refine St.storeRow st 3 rfl ?_
      clear st
      intro w st
      replace st : St No w0 w [frmB bg (frmP s) p' k', memR (frmP s).ch.mem p' k', rdB b36 s' (okP s), frmB b2 (.zero 0) none 0] := by
        rw [setsL_all] at st
        · exact st
        · rfl
      refine ⟨_, _, _, _, _, _, _, _, _, _, _, _, _, _, _, _, _, _, _, _, _, _, _, _, _, _, _, _, _, _, _, st.rowAt 3 rfl rfl, ?_⟩
      exact hnone _ _ rfl (getF_not (fun hh => by have := okP_of hh.2; rw [hok] at this; cases this)) (st.pick [3] rfl (by decide))
end Go.Proofs.Ytbdhdjbdooccoaa
