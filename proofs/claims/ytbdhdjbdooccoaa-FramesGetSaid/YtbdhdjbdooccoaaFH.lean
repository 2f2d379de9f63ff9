/- The document's answer for frames: Get; FramesGet. -/
import Derived.Test.YtbdhdjbdooccoaaFG
namespace Go.Proofs.Ytbdhdjbdooccoaa
open Go.Vc Go.Codec

set_option maxRecDepth 100000 in
set_option maxHeartbeats 8000000 in
theorem rfget_ca {w0 : World} {s : List UInt8} (hs : s.length ≤ 1000) :
    Ca Try.prog 46 #[.string (mk s)] w0 fun e w' => ∃ p' k', e = .returned (.tuple #[frmV (getF s).1 p' k', .int .i64 (getF s).2]) ∧ St No w0 w' [memR (getF s).1.ch.mem p' k'] := by
  have st : St No w0 w0 [] := St.start w0
  have e1 : (mk s).size = s.length := rfl
  refine rfget_ok _ _ _ ?_
  unfold rfget
  refine St.alloc st ?_; clear st; intro b2 w st
  replace st : St No w0 w [frmB b2 (.zero 0) none 0] := st
  have hnone : ∀ (S : Nat → Prop) (w : World), S = No → getF s = (.zero 0, 10) → St S w0 w [frmB b2 (.zero 0) none 0] → ∃ p' k', Ending.returned (.tuple #[frmV (.zero 0) none 0, .int .i64 10]) = .returned (.tuple #[frmV (getF s).1 p' k', .int .i64 (getF s).2]) ∧ St S w0 w [memR (getF s).1.ch.mem p' k'] := by
    intro S w hS h st
    rw [h]
    exact ⟨none, 0, rfl, (st.nil0 43 2).pick [0] rfl (by decide)⟩
  refine Pu.go (runint_pu (l := s) (by omega)) st ?_; clear st; intro w st
  refine ⟨_, _, _, rfl, ?_⟩
  refine St.alloc st ?_; clear st; intro bg w st
  refine ⟨st.wrRow 0 rfl rfl rfl, ?_⟩
  refine St.storeRow st 0 rfl ?_
  clear st
  intro w st
  replace st : St No w0 w [frmB bg (rdKind s).v none 0, frmB b2 (.zero 0) none 0] := by
    rw [setsL_all] at st
    · exact st
    · rfl
  refine Pu.go (rhas_pu (unN s).1) st ?_; clear st; intro w st
  refine ⟨_, rfl, ?_⟩
  have hlen := numsF_len (unN s).1
  have esz : (mk ((numsF (unN s).1).map letF)).size = (numsF (unN s).1).length := by rw [mk_size, List.length_map]
  refine ⟨fun q v w' => ∃ (j : Nat) (r : Rdr Frm), v = [.string (mk r.s), .int .i64 (j : Int)] ∧ q = (numsF (unN s).1).length - j ∧ j ≤ (numsF (unN s).1).length ∧ ((numsF (unN s).1).drop j).foldl Rdr.num r = rdHead s ∧ r.s.length ≤ s.length ∧ r.v.ch = .none ∧ St No w0 w' [frmB bg r.v none r.v.ch.mem.length, frmB b2 (.zero 0) none 0], ⟨_, 0, rdKind s, rfl, rfl, by omega, rfl, un_len s, rfl, st⟩, ?_⟩
  clear st
  rintro _ _ _ w ⟨j, r, hv, rfl, hj, hr, hrl, hch, st⟩
  obtain ⟨rfl, rfl⟩ : _ ∧ _ := by simpa using hv
  clear hv
  replace st : St No w0 w [frmB bg r.v none 0, frmB b2 (.zero 0) none 0] := by rw [hch] at st; exact st
  have l1 := un_len r.s
  refine Br.dec (fun h3 => ?_) (fun h3 => ?_)
  · have hjl : j < (numsF (unN s).1).length := by omega
    have hi := numsF_lt (List.getElem_mem hjl)
    rw [List.drop_eq_getElem_cons hjl, List.foldl_cons] at hr
    have hlet : (mk ((numsF (unN s).1).map letF)).data.getD (j : Int).toNat 0 = letF (numsF (unN s).1)[j] := by
      rw [mk_getD, Int.toNat_natCast, List.getD_eq_getElem?_getD, List.getElem?_map, List.getElem?_eq_getElem hjl]; rfl
    refine Pu.go (runint_pu (l := r.s) (by omega)) st ?_; clear st; intro w st
    refine ⟨_, _, _, rfl, _, _, _, _, _, _, _, _, _, _, _, _, _, _, _, _, _, _, _, _, _, _, _, _, _, _, _, _, _, _, _, st.rowAt 0 rfl rfl, ⟨by omega, by omega⟩, ?_⟩
    rw [hlet]
    refine Pu.go (rwithf_pu hi r.v none 0 (unN r.s).1) st ?_; clear st; intro w st
    refine ⟨_, _, _, _, _, _, _, _, _, _, _, _, _, _, _, _, _, _, _, _, _, _, _, _, _, _, _, _, _, _, _, rfl, st.wrRow 0 rfl rfl rfl, ?_⟩
    refine St.storeRow st 0 rfl ?_
    clear st
    intro w st
    replace st : St No w0 w [frmB bg (r.v.set (numsF (unN s).1)[j] (unN r.s).1) none 0, frmB b2 (.zero 0) none 0] := by
      rw [setsL_all] at st
      · exact st
      · rfl
    have hc2 : (r.num (numsF (unN s).1)[j]).v.ch = .none := hch
    exact LetI.id (by omega) (by omega) ⟨_, by omega, j + 1, r.num (numsF (unN s).1)[j], by simp; rfl, rfl, by omega, hr, Nat.le_trans l1 hrl, hc2, by rw [hc2]; exact st⟩
  · rw [List.drop_eq_nil_of_le (by omega)] at hr
    replace hr : r = rdHead s := hr
    have hfp : (rdAll r).1 = frmP s := by rw [hr]; rfl
    have hkd : r.v.kind = (unN s).1 := by rw [hr]; exact nums_kind _ _
    refine Pu.go (runint_pu (l := r.s) (by omega)) st ?_; clear st; intro w st
    refine ⟨_, _, _, rfl, ?_⟩
    refine ⟨fun v w' => ∃ (p' : Option Addr) (k' : Nat), St No w0 w' [frmB bg (frmP s) p' k', memR (frmP s).ch.mem p' k', frmB b2 (.zero 0) none 0], ?_, ?_⟩
    · unfold rdAll at hfp
      rw [hkd] at hfp
      refine Br.eqi (fun h1 => ?_) (fun h1 => ?_)
      · rw [if_pos h1] at hfp
        refine Pu.go (roget_pu (l := r.s) (by omega)) st ?_; clear st; intro w st
        refine ⟨_, _, _, _, _, rfl, st.wrRow 0 rfl rfl rfl, ?_⟩
        refine St.storeRow st 0 rfl ?_
        clear st
        intro w st
        replace st : St No w0 w [frmB bg (withOp r.v (getO r.s).1) none 0, _] := st
        refine ⟨none, 0, ?_⟩
        have hc : (frmP s).ch.mem = [] := by rw [← hfp]; show r.v.ch.mem = _; rw [hch]; rfl
        rw [hc, ← hfp]
        exact (st.nil0 43 2).pick [1, 0, 2] rfl (by decide)
      rw [if_neg h1] at hfp
      refine Br.eqi (fun h2 => ?_) (fun h2 => ?_)
      · rw [if_pos h2] at hfp
        have l2 := (cut_len (unN r.s).2.1).2
        have l3 := un_len (cutN (unN r.s).2.1).2.1
        refine Pu.go (rcut_pu (l := (unN r.s).2.1) (by omega)) st ?_; clear st; intro w st
        refine ⟨_, _, _, rfl, ?_⟩
        refine Pu.go (runint_pu (l := (cutN (unN r.s).2.1).2.1) (by omega)) st ?_; clear st; intro w st
        refine ⟨_, _, _, rfl, ?_⟩
        refine Pu.go (runint_pu (l := (unN (cutN (unN r.s).2.1).2.1).2.1) (by omega)) st ?_; clear st; intro w st
        refine ⟨_, _, _, rfl, st.wrRow 0 rfl rfl rfl, ?_⟩
        refine St.storeRow st 0 rfl ?_
        clear st
        intro w st
        replace st : St No w0 w [frmB bg (withRes r.v (rdRes r.s)) none 0, _] := st
        refine ⟨none, 0, ?_⟩
        have hc : (frmP s).ch.mem = [] := by rw [← hfp]; show r.v.ch.mem = _; rw [hch]; rfl
        rw [hc, ← hfp]
        exact (st.nil0 43 2).pick [1, 0, 2] rfl (by decide)
      rw [if_neg h2] at hfp
      refine Br.eqi (fun h4 => ?_) (fun h4 => ?_)
      · rw [if_pos h4] at hfp
        have l2 := un_len (unN r.s).2.1
        have l3 := un_len (unN (unN r.s).2.1).2.1
        refine Pu.go (runint_pu (l := (unN r.s).2.1) (by omega)) st ?_; clear st; intro w st
        refine ⟨_, _, _, rfl, ?_⟩
        refine Pu.go (runint_pu (l := (unN (unN r.s).2.1).2.1) (by omega)) st ?_; clear st; intro w st
        refine ⟨_, _, _, rfl, ?_⟩
        refine Pu.go (roget_pu (l := (unN (unN (unN r.s).2.1).2.1).2.1) (by omega)) st ?_; clear st; intro w st
        refine ⟨_, _, _, _, _, rfl, ?_⟩
        refine St.alloc st ?_; clear st; intro bo w st
        refine ⟨st.wrRow 0 rfl rfl rfl, ?_⟩
        refine St.storeRow st 0 rfl ?_; clear st; intro w st; simp only [List.set, setsL] at st
        refine ⟨_, _, _, _, st.rowAt 0 rfl rfl, st.wrRow 1 rfl rfl rfl, ?_⟩
        refine St.storeRow st 1 rfl ?_
        clear st
        intro w st
        replace st : St No w0 w [_, frmB bg (withEnt r.v (rdEnt r.s)) none 0, _] := st
        refine ⟨none, 0, ?_⟩
        have hc : (frmP s).ch.mem = [] := by rw [← hfp]; show r.v.ch.mem = _; rw [hch]; rfl
        rw [hc, ← hfp]
        exact (st.nil0 43 2).pick [2, 0, 3] rfl (by decide)
      rw [if_neg h4] at hfp
      refine Br.eqi (fun h8 => ?_) (fun h8 => ?_)
      · rw [if_pos h8] at hfp
        refine (rcget_ca (s0 := r.s) (by omega)).mono ?_
        rintro _ w1 ⟨x, _, hx, rfl, p', k', rfl, ho, hk⟩
        obtain rfl : x = getC r.s := hx.unique (getC_is r.s)
        replace st := st.pushRow0 hk ho (Nat.le_refl _)
        clear ho hk hx
        refine ⟨_, _, _, _, _, _, rfl, st.wrRow 1 rfl rfl rfl, ?_⟩
        refine St.storeRow st 1 rfl ?_; clear st; intro w st
        replace st : St No w0 w [memR (getC r.s).1.mem p' k', frmB bg (withCh r.v (getC r.s).1) p' k', _] := st
        refine ⟨p', k', ?_⟩
        rw [← hfp]
        exact st.pick [1, 0, 2] rfl (by decide)
      · rw [if_neg h8] at hfp
        refine ⟨none, 0, ?_⟩
        have hc : (frmP s).ch.mem = [] := by rw [← hfp]; show r.v.ch.mem = _; rw [hch]; rfl
        rw [hc, ← hfp]
        exact (st.nil0 43 2).pick [1, 0, 2] rfl (by decide)
    clear st
    rintro w ⟨p', k', st⟩
    have hres := frmP_res s
    refine ⟨_, _, _, _, _, _, _, _, _, _, _, _, _, _, _, _, _, _, _, _, _, _, _, _, _, _, _, _, _, _, _, st.rowAt 0 rfl rfl, ?_⟩
    refine Pw.go (rfput_pw (f := frmP s) (ElAt.of_owns memE_len (st.hold 1 _ rfl) rfl) (by omega)) st ?_; clear st; intro w st
    refine ⟨_, _, rfl, ?_⟩
    refine Br.dec (fun h9 => ?_) (fun h9 => ?_)
    · refine ⟨st.wrRow 2 rfl rfl rfl, ?_⟩
      refine St.storeRow st 2 rfl ?_
      clear st
      intro w st
      replace st : St No w0 w [frmB bg (frmP s) p' k', memR (frmP s).ch.mem p' k', frmB b2 (.zero 0) none 0] := by
        rw [setsL_all] at st
        · exact st
        · rfl
      refine ⟨_, _, _, _, _, _, _, _, _, _, _, _, _, _, _, _, _, _, _, _, _, _, _, _, _, _, _, _, _, _, _, st.rowAt 2 rfl rfl, ?_⟩
      exact hnone _ _ rfl (getF_not (fun hh => by have := hh.1; omega)) (st.pick [2] rfl (by decide))
    · refine Br.nei (fun hc => ?_) (fun hc => ?_)
      · refine ⟨st.wrRow 2 rfl rfl rfl, ?_⟩
        refine St.storeRow st 2 rfl ?_
        clear st
        intro w st
        replace st : St No w0 w [frmB bg (frmP s) p' k', memR (frmP s).ch.mem p' k', frmB b2 (.zero 0) none 0] := by
          rw [setsL_all] at st
          · exact st
          · rfl
        refine ⟨_, _, _, _, _, _, _, _, _, _, _, _, _, _, _, _, _, _, _, _, _, _, _, _, _, _, _, _, _, _, _, st.rowAt 2 rfl rfl, ?_⟩
        exact hnone _ _ rfl (getF_not (fun hh => hc (by rw [hh.2]))) (st.pick [2] rfl (by decide))
      · refine Br.not (Br.eqs' (fun hc2 => ?_) (fun hc2 => ?_))
        · have hp : putF (frmP s) = (s, 0) := Prod.ext hc2 hc
          have e : getF s = (frmP s, 0) := by unfold getF; rw [if_pos ⟨by omega, hp⟩]
          rw [e]
          refine ⟨_, _, _, _, _, _, _, _, _, _, _, _, _, _, _, _, _, _, _, _, _, _, _, _, _, _, _, _, _, _, _, st.rowAt 0 rfl rfl, st.wrRow 2 rfl rfl rfl, ?_⟩
          refine St.storeRow st 2 rfl ?_
          clear st
          intro w st
          replace st : St No w0 w [frmB bg (frmP s) p' k', memR (frmP s).ch.mem p' k', frmB b2 (frmP s) p' k'] := by
            rw [setsL_all] at st
            · exact st
            · rfl
          refine ⟨_, _, _, _, _, _, _, _, _, _, _, _, _, _, _, _, _, _, _, _, _, _, _, _, _, _, _, _, _, _, _, st.rowAt 2 rfl rfl, ?_⟩
          exact ⟨p', k', rfl, st.pick [1] rfl (by decide)⟩
        · refine ⟨st.wrRow 2 rfl rfl rfl, ?_⟩
          refine St.storeRow st 2 rfl ?_
          clear st
          intro w st
          replace st : St No w0 w [frmB bg (frmP s) p' k', memR (frmP s).ch.mem p' k', frmB b2 (.zero 0) none 0] := by
            rw [setsL_all] at st
            · exact st
            · rfl
          refine ⟨_, _, _, _, _, _, _, _, _, _, _, _, _, _, _, _, _, _, _, _, _, _, _, _, _, _, _, _, _, _, _, st.rowAt 2 rfl rfl, ?_⟩
          exact hnone _ _ rfl (getF_not (fun hh => hc2 (by rw [hh.2]))) (st.pick [2] rfl (by decide))
set_option maxRecDepth 100000 in
set_option maxHeartbeats 2000000 in
theorem rfsame_pw {w0 : World} {f : Frm} {k k' : Nat} {p p' : Option Addr} (ha : MemAt w0 p f.ch.mem) (hb : MemAt w0 p' f.ch.mem) (hl : f.ch.mem.length ≤ 1000) :
    Pw Try.prog 47 #[frmV f p k, frmV f p' k'] (.bool true) w0 := by
  have st : St No w0 w0 [] := St.start w0
  refine rfsame_ok _ _ _ _ _ _ _ _ _ _ _ _ _ _ _ _ _ _ _ _ _ _ _ _ _ _ _ _ _ _ _ _ _ _ _ _ _ _ _ _ _ _ _ _ _ _ _ _ _ _ _ _ _ _ _ _ _ _ _ _ _ _ _ _ ?_
  unfold rfsame
  refine St.alloc st ?_; clear st; intro ba w st
  refine St.alloc st ?_; clear st; intro bb w st
  replace st : St No w0 w [frmB bb f p' k', frmB ba f p k] := st
  refine ⟨_, _, _, st.cell 1 rfl rfl, _, _, _, st.cell 0 rfl rfl, Br.nei (fun h => absurd rfl h) (fun _ => ?_)⟩
  iterate 2 refine ⟨_, st.cell 1 rfl rfl, _, st.cell 0 rfl rfl, Br.nei (fun h => absurd rfl h) (fun _ => ?_)⟩
  refine ⟨fun q v w' => ∃ j : Nat, v = [.bool false, .int .i64 (j : Int)] ∧ q = f.ch.mem.length - j ∧ j ≤ f.ch.mem.length ∧ St No w0 w' [frmB bb f p' k', frmB ba f p k], ⟨_, 0, rfl, rfl, by omega, st⟩, ?_⟩
  clear st
  rintro _ _ _ w ⟨j, hv, rfl, hj, st⟩
  obtain ⟨rfl, rfl⟩ : _ ∧ _ := by simpa using hv
  clear hv
  refine ⟨_, _, _, st.cell 1 rfl rfl, Br.dec (fun h1 => ?_) (fun h1 => ?_)⟩
  · have hjl : j < f.ch.mem.length := by omega
    obtain ⟨x, hx, hr⟩ := ha j hjl
    obtain ⟨x', hx', hr'⟩ := hb j hjl
    refine ⟨_, _, _, st.cell 1 rfl rfl, NilOk.intro hx ⟨⟨by omega, by omega⟩, _, _, Row.kp st.kp (not_no _) hr, _, _, _, st.cell 0 rfl rfl, NilOk.intro hx' ⟨⟨by omega, by omega⟩, _, _, Row.kp st.kp (not_no _) hr', ?_⟩⟩⟩
    refine Br.neg (by simp) ?_
    exact LetI.id (by omega) (by omega) ⟨_, by omega, j + 1, by simp, rfl, by omega, st⟩
  · iterate 6 refine ⟨_, st.cell 1 rfl rfl, _, st.cell 0 rfl rfl, Br.nei (fun h => absurd rfl h) (fun _ => ?_)⟩
    refine ⟨_, st.cell 1 rfl rfl, _, st.cell 0 rfl rfl, Br.eqi (fun _ => ?_) (fun h => absurd rfl h)⟩
    refine ⟨_, _, _, _, st.rowAt 1 rfl rfl, _, _, _, _, st.rowAt 0 rfl rfl, Br.pos (by simp) ?_⟩
    refine ⟨_, _, _, _, st.rowAt 1 rfl rfl, _, _, _, _, st.rowAt 0 rfl rfl, Br.pos (by simp) ?_⟩
    refine ⟨_, st.cell 1 rfl rfl, _, st.cell 0 rfl rfl, Br.eqi (fun _ => ?_) (fun h => absurd rfl h)⟩
    refine ⟨_, _, _, _, _, _, _, st.rowAt 1 rfl rfl, _, _, _, _, _, _, _, st.rowAt 0 rfl rfl, Br.pos (by simp) ?_⟩
    iterate 2 refine ⟨_, st.cell 1 rfl rfl, _, st.cell 0 rfl rfl, Br.eqi (fun _ => ?_) (fun h => absurd rfl h)⟩
    refine ⟨_, st.cell 1 rfl rfl, _, st.cell 0 rfl rfl, ?_, st.kp⟩
    rw [beq_self_eq_true]
set_option maxRecDepth 100000 in
set_option maxHeartbeats 4000000 in
theorem lawFGet_pw {w0 : World} (s : List UInt8) : Pw Try.prog 11 #[.string (mk s)] (.bool true) w0 := by
  have st : St No w0 w0 [] := St.start w0
  have e1 : (mk s).size = s.length := rfl
  refine lawFGet_ok _ _ _ ?_
  unfold lawFGet
  refine Br.dec (fun h0 => ?_) (fun h0 => ?_)
  · refine Pu.go fsent_pu st ?_; clear st; intro w st
    exact ⟨_, rfl, rfl, st.kp⟩
  have hmem := getF_mem s
  refine (fget_ca (s := s) (by omega)).mono ?_
  rintro _ w1 ⟨p, k, rfl, st1⟩
  replace st := st.made st1
  clear st1
  refine ⟨_, _, _, _, _, _, _, _, _, _, _, _, _, _, _, _, _, _, _, _, _, _, _, _, _, _, _, _, _, _, _, _, rfl, ?_⟩
  refine St.alloc st ?_; clear st; intro bf w st
  refine ⟨st.wrRow 0 rfl rfl rfl, ?_⟩
  refine St.storeRow st 0 rfl ?_
  clear st
  intro w st
  replace st : St No w0 w [frmB bf (getF s).1 p k, memR (getF s).1.ch.mem p k] := by
    rw [setsL_all] at st
    · exact st
    · rfl
  refine (rfget_ca (s := s) (by omega)).mono ?_
  rintro _ w1 ⟨p2, k2, rfl, st1⟩
  replace st := st.made st1
  clear st1
  refine ⟨_, _, _, _, _, _, _, _, _, _, _, _, _, _, _, _, _, _, _, _, _, _, _, _, _, _, _, _, _, _, _, _, rfl, ?_⟩
  refine St.alloc st ?_; clear st; intro bh w st
  refine ⟨st.wrRow 0 rfl rfl rfl, ?_⟩
  refine St.storeRow st 0 rfl ?_
  clear st
  intro w st
  replace st : St No w0 w [frmB bh (getF s).1 p2 k2, memR (getF s).1.ch.mem p2 k2, frmB bf (getF s).1 p k, memR (getF s).1.ch.mem p k] := by
    rw [setsL_all] at st
    · exact st
    · rfl
  refine ⟨_, _, _, _, _, _, _, _, _, _, _, _, _, _, _, _, _, _, _, _, _, _, _, _, _, _, _, _, _, _, _, st.rowAt 2 rfl rfl, _, _, _, _, _, _, _, _, _, _, _, _, _, _, _, _, _, _, _, _, _, _, _, _, _, _, _, _, _, _, _, st.rowAt 0 rfl rfl, ?_⟩
  refine Pw.go (rfsame_pw (f := (getF s).1) (ElAt.of_owns memE_len (st.hold 3 _ rfl) rfl) (ElAt.of_owns memE_len (st.hold 1 _ rfl) rfl) (by omega)) st ?_; clear st; intro w st
  refine ⟨_, rfl, Br.sure rfl (Br.eqi (fun _ => ?_) (fun hh => absurd rfl hh))⟩
  refine Pu.go fsent_pu st ?_; clear st; intro w st
  exact ⟨_, rfl, rfl, st.kp⟩
end Go.Proofs.Ytbdhdjbdooccoaa
