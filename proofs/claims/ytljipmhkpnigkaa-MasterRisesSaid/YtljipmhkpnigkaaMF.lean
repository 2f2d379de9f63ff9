/- Package master: the chapter's nodes; acts. -/
import Derived.Test.YtljipmhkpnigkaaME
import Derived.Test.YtljipmhkpnigkaaUR
import Derived.Test.YtljipmhkpnigkaaUK
namespace Go.Proofs.Ytljipmhkpnigkaa
open Go.Vc Go.Codec

theorem mnodes_pw {w0 : World} {n k n' k' : Nat} {p p' : Option Addr} {c : Chn} {l : List Int} (ha : MemAt w0 p c.mem) (hb : IntAt w0 p' l) (hn : n = c.mem.length) (hn' : n' = l.length) (hl : c.mem.length ≤ 1000) (hl' : l.length ≤ 1000) :
    Pw Try.prog 55 #[chV c.epoch p n k c.drain, .slice p' n' k'] (.bool (decide (c.mem.map (·.1) = l))) w0 := by
  subst hn hn'
  have st : St No w0 w0 [] := St.start w0
  refine mnodes_ok _ _ _ _ _ _ _ _ _ _ ?_
  unfold mnodes
  refine St.alloc st ?_; clear st; intro bb w st
  refine ⟨_, _, _, st.cell 0 rfl rfl, ?_⟩
  refine Br.nei (fun h1 => ?_) (fun h1 => ?_)
  · refine ⟨?_, st.kp⟩
    rw [decide_eq_false (fun he => h1 (by rw [← he]; simp))]
  have hlen : c.mem.length = l.length := by omega
  refine ⟨fun m v w' => ∃ j : Nat, v = [.bool false, .int .i64 (j : Int)] ∧ m = l.length - j ∧ j ≤ l.length ∧ (c.mem.take j).map (·.1) = l.take j ∧ St No w0 w' [.blk bb 32 [.int .i64 c.epoch, .slice p c.mem.length k, .int .i64 c.drain]], ⟨_, 0, rfl, rfl, by omega, rfl, st⟩, ?_⟩
  clear st
  rintro _ _ _ w ⟨j, hv, rfl, hj, he, st⟩
  obtain ⟨rfl, rfl⟩ : _ ∧ _ := by simpa using hv
  clear hv
  refine Br.dec (fun h2 => ?_) (fun h2 => ?_)
  · have hjl : j < c.mem.length := by omega
    have hjl' : j < l.length := by omega
    obtain ⟨x, hx, hr⟩ := ha j hjl
    obtain ⟨x', hx', hr'⟩ := hb j hjl'
    replace hr := Row.kp st.kp (not_no _) hr
    replace hr' := Row.kp st.kp (not_no _) hr'
    refine ⟨_, _, _, st.cell 0 rfl rfl, ?_⟩
    refine NilOk.intro hx ⟨⟨by omega, by omega⟩, _, by simpa [addr_zero] using Row.get hr (j := 0) rfl, ?_⟩
    refine NilOk.intro hx' ⟨⟨by omega, by omega⟩, _, by simpa [addr_zero] using Row.get hr' (j := 0) rfl, ?_⟩
    refine Br.nei (fun h3 => ?_) (fun h3 => ?_)
    · refine ⟨?_, st.kp⟩
      rw [decide_eq_false (fun hh => h3 ?_)]
      subst hh
      simp
    · refine LetI.id (by omega) (by omega) ⟨_, by omega, j + 1, by simp, rfl, by omega, ?_, st⟩
      rw [List.take_succ_eq_append_getElem hjl, List.take_succ_eq_append_getElem hjl', List.map_append, he, ← h3]
      rfl
  · refine ⟨?_, st.kp⟩
    obtain rfl : j = l.length := by omega
    rw [List.take_length, ← hlen, List.take_length] at he
    rw [decide_eq_true he]
abbrev cfgM : Cfg := ⟨3, 3, 1, [96], 1, 1, 1, 4, 4, 4, 0, 1⟩
theorem fit_master : fitS ⟨3, 3, 0, [], 0, 0, 0, 0, 4, 0, 0, 0⟩ = cfgM := by decide
abbrev xM0 : Mst := ⟨3, 4, ⟨1, [(0, 1), (1, 1), (2, 1)], -1⟩, [0, 0, 0, 0, 0, 0], [true, true, true, false, false, false]⟩
abbrev xM1 : Mst := ⟨3, 4, ⟨1, [(0, 1), (1, 1), (2, 1)], -1⟩, [5, 0, 0, 0, 0, 0], [true, true, true, false, false, false]⟩
abbrev xM2 : Mst := ⟨3, 4, ⟨1, [(0, 1), (1, 1), (2, 1)], -1⟩, [5, 5, 0, 0, 0, 0], [true, true, true, false, false, false]⟩
abbrev xM3 : Mst := ⟨3, 4, ⟨2, [(0, 1), (1, 1)], -1⟩, [5, 5, 0, 0, 0, 0], [true, true, false, false, false, false]⟩
abbrev xM4 : Mst := ⟨3, 4, ⟨3, [(0, 1), (1, 1), (2, 3)], -1⟩, [5, 5, 5, 0, 0, 0], [true, true, false, false, false, false]⟩
abbrev xM5 : Mst := ⟨3, 4, ⟨4, [(1, 1), (2, 3)], -1⟩, [5, 5, 5, 0, 0, 0], [false, true, false, false, false, false]⟩
theorem eM0 : Mst.new cfgM = xM0 := by kernel_rfl
theorem eM1 : xM0.alive 0 1 1 (nearT 5) = xM1 := by kernel_rfl
theorem eM2 : xM1.alive 1 1 1 (nearT 5) = xM2 := by kernel_rfl
theorem eM3 : xM2.tick 5 = xM3 := by kernel_rfl
theorem eM4 : xM3.join 2 5 = (xM4, 0) := by kernel_rfl
theorem eM4' : xM4.join 2 5 = (xM4, 62) := by kernel_rfl
theorem eM5 : xM4.suspect 0 = (xM5, 0) := by kernel_rfl
theorem eM6 : xM5.suspect 1 = (xM5, 72) := by kernel_rfl
theorem eM7 : (xM5.has 2 && xM5.wh 2) = false := by kernel_rfl
theorem okM0 : okM xM0 := eM0 ▸ okM.new_ok (c := cfgM) (by rw [← fit_master]; exact fitS_ok _) (firstS_ok (by rw [← fit_master]; exact fitS_ok _))
theorem okM1 : okM xM1 := eM1 ▸ okM0.alive_ok (by decide) 1 1 (by decide)
theorem okM2 : okM xM2 := eM2 ▸ okM1.alive_ok (by decide) 1 1 (by decide)
theorem okM3 : okM xM3 := eM3 ▸ okM2.tick_ok 5
theorem okM4 : okM xM4 := by have := okM3.join_ok 2 5; rw [eM4] at this; exact this
theorem okM5 : okM xM5 := by have := okM4.suspect_ok 0; rw [eM5] at this; exact this
theorem three {l : List Told} (hl : l.map (·.to) = (List.range 3).map fun (i : Nat) => (i : Int)) : ∃ a b c : Told, l = [a, b, c] ∧ c.to = 2 := by
  have h3 : l.length = 3 := by have := congrArg List.length hl; simpa using this
  obtain ⟨a, b, c, rfl⟩ : ∃ a b c, l = [a, b, c] := by
    rcases l with _ | ⟨a, _ | ⟨b, _ | ⟨c, _ | ⟨d, l⟩⟩⟩⟩ <;> simp at h3
    exact ⟨a, b, c, rfl⟩
  exact ⟨a, b, c, rfl, (List.cons.inj (List.cons.inj (List.cons.inj hl).2).2).1⟩
set_option maxRecDepth 100000 in
set_option maxHeartbeats 4000000 in
theorem mchained_pu : Pu Try.prog 25 #[] (.bool true) := by
  intro w0
  have st : St No w0 w0 [] := St.start w0
  refine mchained_ok _ _ ?_
  unfold mchained
  refine (rfit_ca (c := ⟨3, 3, 0, [], 0, 0, 0, 0, 4, 0, 0, 0⟩) (n := 0) (k := 0) (p := none) (ElAt.nil _ _) rfl (by decide)).mono ?_
  rintro _ w ⟨_, rfl, pz, kz, rfl, ho, hk1⟩
  replace st := st.pushRow0 hk1 ho (Nat.le_refl _)
  clear ho hk1
  rw [fit_master] at st ⊢
  refine ⟨_, _, _, _, _, _, _, _, _, _, _, _, _, _, rfl, ?_⟩
  have hcap := owns_cap (st.hold 0 _ rfl)
  refine (mnew_ca (c := cfgM) (ElAt.of_owns intE_len (st.hold 0 _ rfl) rfl) rfl hcap.1 hcap.2 (by rw [← fit_master]; exact fitS_ok _)).mono ?_
  rintro _ w1 ⟨g, p0, k0, rfl, st1⟩
  replace st := st.made st1
  clear st1
  rw [eM0] at st
  replace st : St No w0 w1 [mB g cfgM _ _ _ xM0 p0 k0, mR xM0.ch.mem p0 k0] := st.pick [0, 1] rfl (by decide)
  refine ⟨_, _, rfl, Br.nay rfl ?_⟩
  refine Tk.go (L2 := []) (mtakeAlive_tk okM0 (n := 0) (by decide) 1 1 5) st ?_
  clear st
  rintro _ _ w ⟨p1, n1, k1, rfl, hn1, rfl⟩ st
  rw [eM1] at st
  obtain rfl := hn1 rfl
  refine ⟨_, _, _, rfl, ?_⟩
  refine Tk.go (L2 := []) (mtakeAlive_tk okM1 (n := 1) (by decide) 1 1 5) st ?_
  clear st
  rintro _ _ w ⟨p2, n2, k2, rfl, hn2, rfl⟩ st
  rw [eM2] at st
  obtain rfl := hn2 rfl
  refine ⟨_, _, _, rfl, ?_⟩
  refine Tk.go (L2 := []) (mtick_tk okM2 5) st ?_
  clear st
  rw [eM3]
  rintro _ _ w ⟨p3, k3, ⟨h, _⟩ | ⟨_, l, pl, kl, rfl, hl, rfl⟩⟩ st
  · exact absurd h (by decide)
  obtain ⟨x0, x1, x2, rfl, hx2⟩ := three hl
  obtain ⟨a, ha, hr⟩ := (ElAt.of_owns (toldE_len _) (st.hold 0 _ rfl) rfl : ElAt (toldE xM3.ch) 30 w pl [x0, x1, x2]) 2 (by simp)
  refine ⟨_, _, _, rfl, Br.nay rfl (Br.nay rfl (Br.nay rfl ?_))⟩
  refine NilOk.intro ha ⟨⟨by decide, by simp⟩, _, by simpa [addr_zero] using Row.get hr (j := 0) rfl, ?_⟩
  rw [hx2]
  refine Br.nay rfl ?_
  refine NilOk.intro ha ⟨⟨by decide, by simp⟩, _, by simpa [addr_zero] using Row.get hr (j := 1) rfl, ?_⟩
  refine Br.nay rfl ?_
  clear ha hr
  replace st := st.tail
  refine Tk.go (L2 := []) (mchain_tk okM3) st ?_
  clear st
  rintro _ _ w ⟨p4, k4, rfl, rfl⟩ st
  refine ⟨_, _, _, _, _, rfl, ?_⟩
  refine St.alloc st ?_; clear st; intro bl w st
  refine Pw.go (mnodes_pw (c := xM3.ch) (l := [0, 1]) (ElAt.of_owns memE_len (st.hold 1 _ rfl) rfl) (ElAt.of_cells intE_len rfl fun q u hu => ?_) rfl rfl (by decide) (by decide)) st ?_
  · rw [add_head]
    exact Blk.at_ (st.hold 0 _ rfl) (by simpa [cellsOf] using hu)
  clear st
  intro w st
  refine ⟨_, rfl, Br.nay rfl ?_⟩
  replace st : St No w0 w [_, _] := st.pick [2, 3] rfl (by decide)
  refine Tk.go (L2 := []) (mjoin_tk okM3 2 5) st ?_
  clear st
  rw [eM4]
  rintro _ _ w ⟨_, _, _, p5, k5, rfl, _, rfl⟩ st
  refine ⟨_, _, _, _, rfl, ?_⟩
  refine Tk.go (L2 := []) (mjoin_tk okM4 2 5) st ?_
  clear st
  rw [eM4']
  rintro _ _ w ⟨_, _, _, p6, k6, rfl, _, rfl⟩ st
  refine ⟨_, _, _, _, rfl, ?_⟩
  refine Tk.go (L2 := []) (mchain_tk okM4) st ?_
  clear st
  rintro _ _ w ⟨p7, k7, rfl, rfl⟩ st
  refine ⟨_, _, _, _, _, rfl, ?_⟩
  repeat' first
    | (with_reducible refine St.alloc st ?_; (try clear st); intro b w st)
    | with_reducible refine sz_and (by (repeat rw [ByteArray.size_append]); omega) ?_
    | (with_reducible apply ex0c; case h => first | exact St.cell st 0 rfl rfl | exact St.cell st 1 rfl rfl | exact St.cell st 2 rfl rfl | exact St.cell st 3 rfl rfl | exact St.cell st 4 rfl rfl | fail)
    | (with_reducible apply ex1c; case h => first | exact St.cell st 0 rfl rfl | exact St.cell st 1 rfl rfl | exact St.cell st 2 rfl rfl | exact St.cell st 3 rfl rfl | exact St.cell st 4 rfl rfl | fail)
    | (with_reducible apply ex3c; case h => first | exact St.cell st 0 rfl rfl | exact St.cell st 1 rfl rfl | exact St.cell st 2 rfl rfl | exact St.cell st 3 rfl rfl | exact St.cell st 4 rfl rfl | fail)
    | (with_reducible apply ex0r; case h => first | exact St.rows st 0 rfl | exact St.rows st 1 rfl | exact St.rows st 2 rfl | exact St.rows st 3 rfl | exact St.rows st 4 rfl | fail)
    | (with_reducible apply exr2; case h => first | exact St.rows st 0 rfl | exact St.rows st 1 rfl | exact St.rows st 2 rfl | exact St.rows st 3 rfl | exact St.rows st 4 rfl | fail)
    | (with_reducible apply exr3; case h => first | exact St.rows st 0 rfl | exact St.rows st 1 rfl | exact St.rows st 2 rfl | exact St.rows st 3 rfl | exact St.rows st 4 rfl | fail)
    | (with_reducible apply exr4; case h => first | exact St.rows st 0 rfl | exact St.rows st 1 rfl | exact St.rows st 2 rfl | exact St.rows st 3 rfl | exact St.rows st 4 rfl | fail)
    | (with_reducible apply exr5; case h => first | exact St.rows st 0 rfl | exact St.rows st 1 rfl | exact St.rows st 2 rfl | exact St.rows st 3 rfl | exact St.rows st 4 rfl | fail)
    | (with_reducible apply exr6; case h => first | exact St.rows st 0 rfl | exact St.rows st 1 rfl | exact St.rows st 2 rfl | exact St.rows st 3 rfl | exact St.rows st 4 rfl | fail)
    | (with_reducible apply exWr; case h => first | exact St.wr st 0 rfl rfl | exact St.wr st 1 rfl rfl | exact St.wr st 2 rfl rfl | exact St.wr st 3 rfl rfl | exact St.wr st 4 rfl rfl | fail)
    | (with_reducible apply exWrRow; case h => first | exact St.wrRow st 0 rfl rfl rfl | exact St.wrRow st 1 rfl rfl rfl | exact St.wrRow st 2 rfl rfl rfl | exact St.wrRow st 3 rfl rfl rfl | exact St.wrRow st 4 rfl rfl rfl | fail)
    | (with_reducible refine LetW.cell ?_; (first | refine St.store st 0 rfl ?_ | refine St.store st 1 rfl ?_ | refine St.store st 2 rfl ?_ | refine St.store st 3 rfl ?_ | refine St.store st 4 rfl ?_ | fail); (try clear st); intro w st; simp only [List.set] at st)
    | (with_reducible refine LetW.rows ?_; (first | refine St.storeRow st 0 rfl ?_ | refine St.storeRow st 1 rfl ?_ | refine St.storeRow st 2 rfl ?_ | refine St.storeRow st 3 rfl ?_ | refine St.storeRow st 4 rfl ?_ | fail); (try clear st); intro w st; simp only [List.set, setsL] at st)
    | ((with_reducible apply exr4); case h => first | exact St.rowAt st 0 rfl rfl | exact St.rowAt st 1 rfl rfl | exact St.rowAt st 2 rfl rfl | exact St.rowAt st 3 rfl rfl | exact St.rowAt st 4 rfl rfl | fail)
    | ((with_reducible apply exr5); case h => first | exact St.rowAt st 0 rfl rfl | exact St.rowAt st 1 rfl rfl | exact St.rowAt st 2 rfl rfl | exact St.rowAt st 3 rfl rfl | exact St.rowAt st 4 rfl rfl | fail)
    | ((with_reducible apply exr6); case h => first | exact St.rowAt st 0 rfl rfl | exact St.rowAt st 1 rfl rfl | exact St.rowAt st 2 rfl rfl | exact St.rowAt st 3 rfl rfl | exact St.rowAt st 4 rfl rfl | fail)
    | with_reducible refine LetI.id (by omega) (by omega) ?_
    | fail
  replace st : St No w0 _ [mB _ _ _ _ _ xM4 p6 k6, mR xM4.ch.mem p6 k6, _, _] := st.pick [2, 3, 0, 1] rfl (by decide)
  refine Tk.go (L1 := [mB _ _ _ _ _ xM4 p6 k6, mR xM4.ch.mem p6 k6]) (msuspect_u okM4 0) st ?_
  clear st
  rw [eM5]
  rintro _ _ w ⟨_, _, _, p8, k8, rfl, _, rfl⟩ st
  refine ⟨_, _, _, _, rfl, ?_⟩
  refine Tk.go (L1 := [mB _ _ _ _ _ xM5 p8 k8, mR xM5.ch.mem p8 k8]) (msuspect_u okM5 1) st ?_
  clear st
  rw [eM6]
  rintro _ _ w ⟨_, _, _, p9, k9, rfl, _, rfl⟩ st
  refine ⟨_, _, _, _, rfl, ?_⟩
  refine Br.sure rfl (Br.sure rfl ?_)
  refine ⟨_, _, _, _, _, st.rowAt 2 rfl rfl, ?_⟩
  refine St.alloc st ?_; clear st; intro bl w st
  refine Pw.go (mnodes_pw (c := xM4.ch) (l := [0, 1, 2]) (ElAt.of_owns memE_len (st.hold 4 _ rfl) rfl) (ElAt.of_cells intE_len rfl fun q u hu => ?_) rfl rfl (by decide) (by decide)) st ?_
  · rw [add_head]
    exact Blk.at_ (st.hold 0 _ rfl) (by simpa [cellsOf] using hu)
  clear st
  intro w st
  refine ⟨_, rfl, Br.sure rfl (Br.sure rfl (Br.sure rfl ?_))⟩
  refine Pw.go (mwhole_pw (m := xM5) (st.hold 1 _ rfl) (ElAt.of_owns memE_len (st.hold 2 _ rfl) rfl) okM5 2) st ?_
  clear st
  rw [eM7]
  intro w st
  exact ⟨_, rfl, rfl, st.kp⟩
end Go.Proofs.Ytljipmhkpnigkaa
