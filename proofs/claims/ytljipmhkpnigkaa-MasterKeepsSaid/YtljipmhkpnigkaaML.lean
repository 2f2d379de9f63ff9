/- MasterKeeps: what is claimed is so, for whatever comes in. -/
import Derived.Test.YtljipmhkpnigkaaMJ
import Derived.Test.YtljipmhkpnigkaaDM4
namespace Go.Proofs.Ytljipmhkpnigkaa
open Go.Vc Go.Codec

theorem addHead (b i : Nat) : (Addr.mk b 0 none).add (i * 1) = ⟨b, i, none⟩ := by simp [Addr.add]; omega
theorem heardCell {l : List Int} (h : l.length = 6) {i : Nat} (hi : i < 6) : (l.map (Value.int .i64))[i]? = some (.int .i64 (l.getD i 0)) := by
  rw [List.getElem?_map, List.getD_eq_getElem?_getD, List.getElem?_eq_getElem (by omega)]; rfl
set_option maxRecDepth 100000 in
set_option maxHeartbeats 8000000 in
theorem lawMKeeps_pw {w0 : World} {n k : Nat} {p : Option Addr} {c : Cfg} (hM : IntAt w0 p c.quanta) (hn : n = c.quanta.length) (hk : n ≤ k) (_hk' : k ≤ maxLen) {nq kq : Nat} {pq : Option Addr} {l : List ActM} (hA : ActAt w0 pq l) (hnq : nq = l.length) (hlq : l.length ≤ maxLen) {nt kt : Nat} {pt : Option Addr} {tk : List U8S} (hT : TkAt w0 pt tk) (hnt : nt = tk.length) :
    Pw Try.prog 5 #[cfV c p n k, .slice pq nq kq, .slice pt nt kt] (.bool true) w0 := by
  have st : St No w0 w0 [] := St.start w0
  subst hn hnq hnt
  refine lawMKeeps_ok _ _ _ _ _ _ _ _ _ _ _ _ _ _ _ _ _ _ _ _ _ _ ?_
  unfold lawMKeeps
  refine St.alloc st ?_; clear st; intro bc w st
  refine ⟨_, _, _, st.cell 0 rfl rfl, Br.dec (fun h1 => ?_) (fun h1 => ?_)⟩
  · refine Pu.go mchained_pu st ?_; clear st; intro w st
    exact ⟨_, rfl, rfl, st.kp⟩
  obtain ⟨B, hB, hG⟩ := mgreat_pw (k := kq) (hA.no st.kp) rfl hlq 40
  refine Pw.go hG st ?_; clear st hG; intro w st
  refine ⟨_, rfl, Br.bool (fun h2 => ?_) (fun h2 => ?_)⟩
  · refine Pu.go mchained_pu st ?_; clear st; intro w st
    exact ⟨_, rfl, rfl, st.kp⟩
  have hll := hB h2
  clear hB h2 hlq
  refine Br.dec (fun h3 => ?_) (fun h3 => ?_)
  · refine Pu.go mchained_pu st ?_; clear st; intro w st
    exact ⟨_, rfl, rfl, st.kp⟩
  refine ⟨_, _, _, _, _, _, _, _, _, _, _, _, _, _, st.rowAt 0 rfl rfl, ?_⟩
  refine (rfit_ca (c := c) (hM.no st.kp) rfl (by omega)).mono ?_
  rintro _ w1 ⟨_, rfl, pz, kz, rfl, ho, hk1⟩
  replace st := st.pushRow0 hk1 ho (Nat.le_refl _)
  clear ho hk1
  refine ⟨_, _, _, _, _, _, _, _, _, _, _, _, _, _, rfl, ?_⟩
  repeat' first
    | (with_reducible refine St.alloc st ?_; (try clear st); intro b w st)
    | with_reducible refine sz_and (by (repeat rw [ByteArray.size_append]); omega) ?_
    | (with_reducible apply ex0c; case h => first | exact St.cell st 0 rfl rfl | exact St.cell st 1 rfl rfl | fail)
    | (with_reducible apply ex1c; case h => first | exact St.cell st 0 rfl rfl | exact St.cell st 1 rfl rfl | fail)
    | (with_reducible apply ex3c; case h => first | exact St.cell st 0 rfl rfl | exact St.cell st 1 rfl rfl | fail)
    | (with_reducible apply ex0r; case h => first | exact St.rows st 0 rfl | exact St.rows st 1 rfl | fail)
    | (with_reducible apply exr2; case h => first | exact St.rows st 0 rfl | exact St.rows st 1 rfl | fail)
    | (with_reducible apply exr3; case h => first | exact St.rows st 0 rfl | exact St.rows st 1 rfl | fail)
    | (with_reducible apply exr4; case h => first | exact St.rows st 0 rfl | exact St.rows st 1 rfl | fail)
    | (with_reducible apply exr5; case h => first | exact St.rows st 0 rfl | exact St.rows st 1 rfl | fail)
    | (with_reducible apply exr6; case h => first | exact St.rows st 0 rfl | exact St.rows st 1 rfl | fail)
    | (with_reducible apply exr14; case h => first | exact St.rows st 0 rfl | exact St.rows st 1 rfl | fail)
    | (with_reducible apply exWr; case h => first | exact St.wr st 0 rfl rfl | exact St.wr st 1 rfl rfl | fail)
    | (with_reducible apply exWrRow; case h => first | exact St.wrRow st 0 rfl rfl rfl | exact St.wrRow st 1 rfl rfl rfl | fail)
    | (with_reducible refine LetW.cell ?_; (first | refine St.store st 0 rfl ?_ | refine St.store st 1 rfl ?_ | fail); (try clear st); intro w st; simp only [List.set] at st)
    | (with_reducible refine LetW.rows ?_; (first | refine St.storeRow st 0 rfl ?_ | refine St.storeRow st 1 rfl ?_ | fail); (try clear st); intro w st; simp only [List.set, setsL] at st)
    | ((with_reducible apply exr4); case h => first | exact St.rowAt st 0 rfl rfl | exact St.rowAt st 1 rfl rfl | fail)
    | ((with_reducible apply exr5); case h => first | exact St.rowAt st 0 rfl rfl | exact St.rowAt st 1 rfl rfl | fail)
    | ((with_reducible apply exr6); case h => first | exact St.rowAt st 0 rfl rfl | exact St.rowAt st 1 rfl rfl | fail)
    | with_reducible refine LetI.id (by omega) (by omega) ?_
    | fail
  have hcap := owns_cap (st.hold 0 _ rfl)
  refine (mnew_ca (c := fitS c) (ElAt.of_owns intE_len (st.hold 0 _ rfl) rfl) rfl hcap.1 hcap.2 (fitS_ok _)).mono ?_
  rintro _ w1 ⟨g, p0, k0, rfl, st1⟩
  replace st := st.made st1
  clear st1 hcap
  simp only [List.cons_append, List.nil_append] at st
  refine ⟨_, _, rfl, Br.nay rfl ?_⟩
  have hok0 := okM.new_ok (fitS_ok c) (firstS_ok (fitS_ok c))
  have hN := (fitS_ok c).nodes
  unfold inS at hN
  generalize fitS c = f at *
  refine St.alloc st ?_; clear st; intro bh w st
  refine ⟨fun q v w' => ∃ (j : Nat) (m : Mst) (p2 : Option Addr) (k2 : Nat) (now : Int), v = [.int .i64 now, .bool false, .int .i64 (j : Int)] ∧ q = l.length - j ∧ j ≤ l.length ∧ 0 ≤ now ∧ now ≤ 3 * j ∧ okM m ∧ m.nodes = f.nodes ∧ m.patience = f.patience ∧ m.ch.epoch ≤ 1 + 12 * j ∧ St No w0 w' [mB g f pz f.quanta.length kz m p2 k2, mR m.ch.mem p2 k2, .blk bc 24 (cfL f pz f.quanta.length kz), .blk bh 45 (m.heard.map (Value.int .i64))], ⟨_, 0, Mst.new f, p0, k0, 0, rfl, rfl, by omega, by omega, by omega, hok0, rfl, rfl, by show (1 : Int) ≤ _; omega, st.pick [1, 2, 4, 0] rfl (by decide)⟩, ?_⟩
  clear st hok0
  rintro _ _ _ _ w ⟨j, m, p2, k2, now0, hv, rfl, hj, hnow1, hnow2, hok, hns, hpt, hep, st⟩
  obtain ⟨rfl, rfl, rfl⟩ : _ ∧ _ ∧ _ := by simpa using hv
  clear hv
  refine Br.dec (fun h3 => ?_) (fun h3 => ?_)
  · have hjl : j < l.length := by omega
    refine ⟨fun v w' => ∃ (now : Int), v = [.int .i64 now] ∧ 0 ≤ now ∧ now ≤ 3 * (j + 1) ∧ St No w0 w' [mB g f pz f.quanta.length kz m p2 k2, mR m.ch.mem p2 k2, .blk bc 24 (cfL f pz f.quanta.length kz), .blk bh 45 (m.heard.map (Value.int .i64))], ?_, ?_⟩
    · refine Br.dec (fun h4 => ?_) (fun h4 => ?_)
      · have hjt : j < tk.length := by omega
        obtain ⟨a, ha, hr⟩ := hT j hjt
        replace hr := Row.kp st.kp (not_no _) hr
        have hx := tk[j].2
        refine NilOk.intro ha ⟨⟨by omega, by omega⟩, _, by simpa [addr_zero] using Row.get hr (j := 0) rfl, ?_⟩
        refine LetI.id (by omega) (by omega) ⟨by omega, LetI.of ?_⟩
        have hy := tmod_in hx.1 (show (0 : Int) < 4 by omega)
        exact LetI.id (by omega) (by omega) ⟨_, rfl, by omega, by omega, st⟩
      · exact ⟨_, rfl, hnow1, by omega, st⟩
    clear st hnow1 hnow2
    rintro now w ⟨_, hv, hnow1, hnow2, st⟩
    obtain rfl : now = _ := by simpa using hv
    clear hv
    obtain ⟨a, ha, hr⟩ := hA j hjl
    replace hr := Row.kp st.kp (not_no _) hr
    have hx1 := l[j].hk
    have hx2 := l[j].ha
    refine NilOk.intro ha ⟨⟨by omega, by omega⟩, _, by simpa [addr_zero] using Row.get hr (j := 1) rfl, ?_⟩
    refine LetI.id (by omega) (by omega) ⟨_, st.cell 2 rfl rfl, by omega, ?_⟩
    refine LetI.of ?_
    have hn := tmod_in hx2.1 (show (0 : Int) < f.nodes by omega)
    generalize l[j].a.tmod f.nodes = n at *
    have hnt : nearT now = now := nearT_id ⟨hnow1, by omega⟩
    refine ⟨fun v w' => ∃ (m1 : Mst) (p3 : Option Addr) (k3 : Nat), okM m1 ∧ m1.nodes = f.nodes ∧ m1.patience = f.patience ∧ m1.ch.epoch ≤ 1 + 12 * j + 6 ∧ St No w0 w' [mB g f pz f.quanta.length kz m1 p3 k3, mR m1.ch.mem p3 k3, .blk bc 24 (cfL f pz f.quanta.length kz), .blk bh 45 (m1.heard.map (Value.int .i64))], ?_, ?_⟩
    · refine NilOk.intro ha ⟨⟨by omega, by omega⟩, _, by simpa [addr_zero] using Row.get hr (j := 0) rfl, by omega, ?_⟩
      refine LetI.of ?_
      refine Br.eqi (fun hk0 => Br.eqi (fun _ => ?_) (fun hh => absurd hk0 hh)) (fun _ => Br.eqi (fun _ => ?_) (fun _ => Br.eqi (fun _ => ?_) (fun _ => ?_)))
      · refine Tk.go (L2 := [.blk bc 24 (cfL f pz f.quanta.length kz), .blk bh 45 (m.heard.map (Value.int .i64))]) (mchain_tk hok) st ?_
        clear st
        rintro _ _ w ⟨p3, k3, rfl, rfl⟩ st
        refine ⟨_, _, _, _, _, rfl, ?_⟩
        refine Tk.go (L2 := [.blk bc 24 (cfL f pz f.quanta.length kz), .blk bh 45 (m.heard.map (Value.int .i64))]) (mtakeAlive_tk hok (n := n) ⟨hn.1, by omega⟩ m.ch.epoch 1 now) st.tail ?_
        clear st
        rintro _ _ w ⟨_, _, _, rfl, _, rfl⟩ st
        have hri := rise_alive hok (n := n) ⟨hn.1, by omega⟩ m.ch.epoch 1 (nearT_in now)
        rw [hnt] at hri st
        refine ⟨_, _, _, rfl, ⟨by omega, by omega⟩, ?_⟩
        rw [addHead]
        refine ⟨st.wr 3 (i := n.toNat) rfl (heardCell hok.hl (by omega)), ?_⟩
        refine St.store st 3 rfl ?_
        clear st
        intro w st
        rw [← List.map_set] at st
        exact ⟨_, p2, k2, hri.ok, hri.nodes.trans hns, hpt, by have := hri.le; omega, st⟩
      · refine Tk.go (L2 := [.blk bc 24 (cfL f pz f.quanta.length kz), .blk bh 45 (m.heard.map (Value.int .i64))]) (mchain_tk hok) st ?_
        clear st
        rintro _ _ w ⟨p3, k3, rfl, rfl⟩ st
        refine ⟨_, _, _, _, _, rfl, ?_⟩
        refine Tk.go (L2 := [.blk bc 24 (cfL f pz f.quanta.length kz), .blk bh 45 (m.heard.map (Value.int .i64))]) (mtakeAlive_tk hok (n := n) ⟨hn.1, by omega⟩ m.ch.epoch 1 now) st.tail ?_
        clear st
        rintro _ _ w ⟨_, _, _, rfl, _, rfl⟩ st
        have hri := rise_alive hok (n := n) ⟨hn.1, by omega⟩ m.ch.epoch 1 (nearT_in now)
        rw [hnt] at hri st
        refine ⟨_, _, _, rfl, ⟨by omega, by omega⟩, ?_⟩
        rw [addHead]
        refine ⟨st.wr 3 (i := n.toNat) rfl (heardCell hok.hl (by omega)), ?_⟩
        refine St.store st 3 rfl ?_
        clear st
        intro w st
        rw [← List.map_set] at st
        exact ⟨_, p2, k2, hri.ok, hri.nodes.trans hns, hpt, by have := hri.le; omega, st⟩
      · refine Tk.go (L2 := [.blk bc 24 (cfL f pz f.quanta.length kz), .blk bh 45 (m.heard.map (Value.int .i64))]) (mjoin_tk hok n now) st ?_
        clear st
        rintro _ _ w ⟨_, _, _, p3, k3, rfl, _, rfl⟩ st
        obtain ⟨hri, hyes, hno⟩ := rise_join hok n now
        have hjp := (join_pat m n now).trans hpt
        refine ⟨_, _, _, _, rfl, Br.eqi (fun h5 => ?_) (fun h5 => ?_)⟩
        · obtain ⟨_, _, _, _, _, hh⟩ := hyes h5
          rw [hnt] at hh
          refine ⟨⟨by omega, by omega⟩, ?_⟩
          rw [addHead]
          refine ⟨st.wr 3 (i := n.toNat) rfl (heardCell hok.hl (by omega)), ?_⟩
          refine St.store st 3 rfl ?_
          clear st
          intro w st
          rw [← List.map_set, ← hh] at st
          exact ⟨_, p3, k3, hri.ok, hri.nodes.trans hns, hjp, by have := hri.le; omega, st⟩
        · have hh : (m.join n now).1.heard = m.heard := by rw [hno h5]
          rw [← hh] at st
          exact ⟨_, p3, k3, hri.ok, hri.nodes.trans hns, hjp, by have := hri.le; omega, st⟩
      · refine Tk.go (L2 := [.blk bc 24 (cfL f pz f.quanta.length kz), .blk bh 45 (m.heard.map (Value.int .i64))]) (msuspect_u hok n) st ?_
        clear st
        rintro _ _ w ⟨_, _, _, p3, k3, rfl, _, rfl⟩ st
        obtain ⟨hri, _⟩ := rise_suspect hok (by omega) n
        obtain ⟨hsp, hh⟩ := suspect_pat m n
        rw [← hh] at st
        exact ⟨_, _, _, _, rfl, _, p3, k3, hri.ok, hri.nodes.trans hns, hsp.trans hpt, by have := hri.le; omega, st⟩
    clear st
    rintro w ⟨m1, p3, k3, hok1, hns1, hpt1, hep1, st⟩
    clear hok hns hep hpt
    have hl2 := hok1.ok.l2
    have he1 := hok1.ok.e1
    refine Tk.go (L2 := [.blk bc 24 (cfL f pz f.quanta.length kz), .blk bh 45 (m1.heard.map (Value.int .i64))]) (mchain_tk hok1) st ?_
    clear st
    rintro _ _ w ⟨p4, k4, rfl, rfl⟩ st
    simp only [List.cons_append, List.nil_append] at st
    refine ⟨_, _, _, _, _, rfl, ?_⟩
    refine St.alloc st ?_; clear st; intro bw w st
    repeat' first
      | (with_reducible refine St.alloc st ?_; (try clear st); intro b w st)
      | with_reducible refine sz_and (by (repeat rw [ByteArray.size_append]); omega) ?_
      | (with_reducible apply ex0c; case h => first | exact St.cell st 0 rfl rfl | exact St.cell st 1 rfl rfl | exact St.cell st 2 rfl rfl | exact St.cell st 3 rfl rfl | exact St.cell st 4 rfl rfl | exact St.cell st 5 rfl rfl | fail)
      | (with_reducible apply ex1c; case h => first | exact St.cell st 0 rfl rfl | exact St.cell st 1 rfl rfl | exact St.cell st 2 rfl rfl | exact St.cell st 3 rfl rfl | exact St.cell st 4 rfl rfl | exact St.cell st 5 rfl rfl | fail)
      | (with_reducible apply ex3c; case h => first | exact St.cell st 0 rfl rfl | exact St.cell st 1 rfl rfl | exact St.cell st 2 rfl rfl | exact St.cell st 3 rfl rfl | exact St.cell st 4 rfl rfl | exact St.cell st 5 rfl rfl | fail)
      | (with_reducible apply ex0r; case h => first | exact St.rows st 0 rfl | exact St.rows st 1 rfl | exact St.rows st 2 rfl | exact St.rows st 3 rfl | exact St.rows st 4 rfl | exact St.rows st 5 rfl | fail)
      | (with_reducible apply exr2; case h => first | exact St.rows st 0 rfl | exact St.rows st 1 rfl | exact St.rows st 2 rfl | exact St.rows st 3 rfl | exact St.rows st 4 rfl | exact St.rows st 5 rfl | fail)
      | (with_reducible apply exr3; case h => first | exact St.rows st 0 rfl | exact St.rows st 1 rfl | exact St.rows st 2 rfl | exact St.rows st 3 rfl | exact St.rows st 4 rfl | exact St.rows st 5 rfl | fail)
      | (with_reducible apply exr4; case h => first | exact St.rows st 0 rfl | exact St.rows st 1 rfl | exact St.rows st 2 rfl | exact St.rows st 3 rfl | exact St.rows st 4 rfl | exact St.rows st 5 rfl | fail)
      | (with_reducible apply exr5; case h => first | exact St.rows st 0 rfl | exact St.rows st 1 rfl | exact St.rows st 2 rfl | exact St.rows st 3 rfl | exact St.rows st 4 rfl | exact St.rows st 5 rfl | fail)
      | (with_reducible apply exr6; case h => first | exact St.rows st 0 rfl | exact St.rows st 1 rfl | exact St.rows st 2 rfl | exact St.rows st 3 rfl | exact St.rows st 4 rfl | exact St.rows st 5 rfl | fail)
      | (with_reducible apply exWr; case h => first | exact St.wr st 0 rfl rfl | exact St.wr st 1 rfl rfl | exact St.wr st 2 rfl rfl | exact St.wr st 3 rfl rfl | exact St.wr st 4 rfl rfl | exact St.wr st 5 rfl rfl | fail)
      | (with_reducible apply exWrRow; case h => first | exact St.wrRow st 0 rfl rfl rfl | exact St.wrRow st 1 rfl rfl rfl | exact St.wrRow st 2 rfl rfl rfl | exact St.wrRow st 3 rfl rfl rfl | exact St.wrRow st 4 rfl rfl rfl | exact St.wrRow st 5 rfl rfl rfl | fail)
      | (with_reducible refine LetW.cell ?_; (first | refine St.store st 0 rfl ?_ | refine St.store st 1 rfl ?_ | refine St.store st 2 rfl ?_ | refine St.store st 3 rfl ?_ | refine St.store st 4 rfl ?_ | refine St.store st 5 rfl ?_ | fail); (try clear st); intro w st; simp only [List.set] at st)
      | (with_reducible refine LetW.rows ?_; (first | refine St.storeRow st 0 rfl ?_ | refine St.storeRow st 1 rfl ?_ | refine St.storeRow st 2 rfl ?_ | refine St.storeRow st 3 rfl ?_ | refine St.storeRow st 4 rfl ?_ | refine St.storeRow st 5 rfl ?_ | fail); (try clear st); intro w st; simp only [List.set, setsL] at st)
      | ((with_reducible apply exr4); case h => first | exact St.rowAt st 0 rfl rfl | exact St.rowAt st 1 rfl rfl | exact St.rowAt st 2 rfl rfl | exact St.rowAt st 3 rfl rfl | exact St.rowAt st 4 rfl rfl | exact St.rowAt st 5 rfl rfl | fail)
      | ((with_reducible apply exr5); case h => first | exact St.rowAt st 0 rfl rfl | exact St.rowAt st 1 rfl rfl | exact St.rowAt st 2 rfl rfl | exact St.rowAt st 3 rfl rfl | exact St.rowAt st 4 rfl rfl | exact St.rowAt st 5 rfl rfl | fail)
      | ((with_reducible apply exr6); case h => first | exact St.rowAt st 0 rfl rfl | exact St.rowAt st 1 rfl rfl | exact St.rowAt st 2 rfl rfl | exact St.rowAt st 3 rfl rfl | exact St.rowAt st 4 rfl rfl | exact St.rowAt st 5 rfl rfl | fail)
      | with_reducible refine LetI.id (by omega) (by omega) ?_
      | fail
    refine Tk.go (L1 := [mB g f pz f.quanta.length kz m1 p3 k3, mR m1.ch.mem p3 k3]) (L2 := [.blk bw 32 [.int .i64 m1.ch.epoch, .slice p4 m1.ch.mem.length k4, .int .i64 m1.ch.drain], mR m1.ch.mem p4 k4, .blk bc 24 (cfL f pz f.quanta.length kz), .blk bh 45 (m1.heard.map (Value.int .i64))]) (mtick_u hok1 now) (st.pick [2, 3, 0, 1, 4, 5] rfl (by decide)) ?_
    clear st
    rintro _ _ w ⟨_, _, _, p5, k5, rfl, _, rfl⟩ st
    obtain ⟨hfo, hno⟩ := tick_law hok1 (by omega) now
    have hri := rise_tick hok1 (by omega) now
    generalize m1.tick now = m2 at *
    have hok2 := hfo.ok
    have hl3 := hok2.ok.l2
    have hle := hri.le
    refine ⟨_, _, _, rfl, ?_⟩
    refine Tk.go (L2 := [.blk bw 32 [.int .i64 m1.ch.epoch, .slice p4 m1.ch.mem.length k4, .int .i64 m1.ch.drain], mR m1.ch.mem p4 k4, .blk bc 24 (cfL f pz f.quanta.length kz), .blk bh 45 (m1.heard.map (Value.int .i64))]) (mchain_tk hok2) st ?_
    clear st
    rintro _ _ w ⟨p6, k6, rfl, rfl⟩ st
    simp only [List.cons_append, List.nil_append] at st
    refine ⟨_, _, _, _, _, rfl, ?_⟩
    refine St.alloc st ?_; clear st; intro bi w st
    repeat' first
      | (with_reducible refine St.alloc st ?_; (try clear st); intro b w st)
      | with_reducible refine sz_and (by (repeat rw [ByteArray.size_append]); omega) ?_
      | (with_reducible apply ex0c; case h => first | exact St.cell st 0 rfl rfl | exact St.cell st 1 rfl rfl | exact St.cell st 2 rfl rfl | exact St.cell st 3 rfl rfl | exact St.cell st 4 rfl rfl | exact St.cell st 5 rfl rfl | exact St.cell st 6 rfl rfl | fail)
      | (with_reducible apply ex1c; case h => first | exact St.cell st 0 rfl rfl | exact St.cell st 1 rfl rfl | exact St.cell st 2 rfl rfl | exact St.cell st 3 rfl rfl | exact St.cell st 4 rfl rfl | exact St.cell st 5 rfl rfl | exact St.cell st 6 rfl rfl | fail)
      | (with_reducible apply ex3c; case h => first | exact St.cell st 0 rfl rfl | exact St.cell st 1 rfl rfl | exact St.cell st 2 rfl rfl | exact St.cell st 3 rfl rfl | exact St.cell st 4 rfl rfl | exact St.cell st 5 rfl rfl | exact St.cell st 6 rfl rfl | fail)
      | (with_reducible apply ex0r; case h => first | exact St.rows st 0 rfl | exact St.rows st 1 rfl | exact St.rows st 2 rfl | exact St.rows st 3 rfl | exact St.rows st 4 rfl | exact St.rows st 5 rfl | exact St.rows st 6 rfl | fail)
      | (with_reducible apply exr2; case h => first | exact St.rows st 0 rfl | exact St.rows st 1 rfl | exact St.rows st 2 rfl | exact St.rows st 3 rfl | exact St.rows st 4 rfl | exact St.rows st 5 rfl | exact St.rows st 6 rfl | fail)
      | (with_reducible apply exr3; case h => first | exact St.rows st 0 rfl | exact St.rows st 1 rfl | exact St.rows st 2 rfl | exact St.rows st 3 rfl | exact St.rows st 4 rfl | exact St.rows st 5 rfl | exact St.rows st 6 rfl | fail)
      | (with_reducible apply exr4; case h => first | exact St.rows st 0 rfl | exact St.rows st 1 rfl | exact St.rows st 2 rfl | exact St.rows st 3 rfl | exact St.rows st 4 rfl | exact St.rows st 5 rfl | exact St.rows st 6 rfl | fail)
      | (with_reducible apply exr5; case h => first | exact St.rows st 0 rfl | exact St.rows st 1 rfl | exact St.rows st 2 rfl | exact St.rows st 3 rfl | exact St.rows st 4 rfl | exact St.rows st 5 rfl | exact St.rows st 6 rfl | fail)
      | (with_reducible apply exr6; case h => first | exact St.rows st 0 rfl | exact St.rows st 1 rfl | exact St.rows st 2 rfl | exact St.rows st 3 rfl | exact St.rows st 4 rfl | exact St.rows st 5 rfl | exact St.rows st 6 rfl | fail)
      | (with_reducible apply exWr; case h => first | exact St.wr st 0 rfl rfl | exact St.wr st 1 rfl rfl | exact St.wr st 2 rfl rfl | exact St.wr st 3 rfl rfl | exact St.wr st 4 rfl rfl | exact St.wr st 5 rfl rfl | exact St.wr st 6 rfl rfl | fail)
      | (with_reducible apply exWrRow; case h => first | exact St.wrRow st 0 rfl rfl rfl | exact St.wrRow st 1 rfl rfl rfl | exact St.wrRow st 2 rfl rfl rfl | exact St.wrRow st 3 rfl rfl rfl | exact St.wrRow st 4 rfl rfl rfl | exact St.wrRow st 5 rfl rfl rfl | exact St.wrRow st 6 rfl rfl rfl | fail)
      | (with_reducible refine LetW.cell ?_; (first | refine St.store st 0 rfl ?_ | refine St.store st 1 rfl ?_ | refine St.store st 2 rfl ?_ | refine St.store st 3 rfl ?_ | refine St.store st 4 rfl ?_ | refine St.store st 5 rfl ?_ | refine St.store st 6 rfl ?_ | fail); (try clear st); intro w st; simp only [List.set] at st)
      | (with_reducible refine LetW.rows ?_; (first | refine St.storeRow st 0 rfl ?_ | refine St.storeRow st 1 rfl ?_ | refine St.storeRow st 2 rfl ?_ | refine St.storeRow st 3 rfl ?_ | refine St.storeRow st 4 rfl ?_ | refine St.storeRow st 5 rfl ?_ | refine St.storeRow st 6 rfl ?_ | fail); (try clear st); intro w st; simp only [List.set, setsL] at st)
      | ((with_reducible apply exr4); case h => first | exact St.rowAt st 0 rfl rfl | exact St.rowAt st 1 rfl rfl | exact St.rowAt st 2 rfl rfl | exact St.rowAt st 3 rfl rfl | exact St.rowAt st 4 rfl rfl | exact St.rowAt st 5 rfl rfl | exact St.rowAt st 6 rfl rfl | fail)
      | ((with_reducible apply exr5); case h => first | exact St.rowAt st 0 rfl rfl | exact St.rowAt st 1 rfl rfl | exact St.rowAt st 2 rfl rfl | exact St.rowAt st 3 rfl rfl | exact St.rowAt st 4 rfl rfl | exact St.rowAt st 5 rfl rfl | exact St.rowAt st 6 rfl rfl | fail)
      | ((with_reducible apply exr6); case h => first | exact St.rowAt st 0 rfl rfl | exact St.rowAt st 1 rfl rfl | exact St.rowAt st 2 rfl rfl | exact St.rowAt st 3 rfl rfl | exact St.rowAt st 4 rfl rfl | exact St.rowAt st 5 rfl rfl | exact St.rowAt st 6 rfl rfl | fail)
      | with_reducible refine LetI.id (by omega) (by omega) ?_
      | fail
    refine ⟨fun q v w' => ∃ (i : Nat), v = [.bool false, .int .i64 (i : Int)] ∧ q = m1.ch.mem.length - i ∧ i ≤ m1.ch.mem.length ∧ St No w0 w' [.blk bi 32 [.int .i64 m2.ch.epoch, .slice p6 m2.ch.mem.length k6, .int .i64 m2.ch.drain], mR m2.ch.mem p6 k6, mB g f pz f.quanta.length kz m2 p5 k5, mR m2.ch.mem p5 k5, .blk bw 32 [.int .i64 m1.ch.epoch, .slice p4 m1.ch.mem.length k4, .int .i64 m1.ch.drain], mR m1.ch.mem p4 k4, .blk bc 24 (cfL f pz f.quanta.length kz), .blk bh 45 (m1.heard.map (Value.int .i64))], ⟨_, 0, rfl, rfl, by omega, st⟩, ?_⟩
    clear st
    rintro _ _ _ w ⟨i, hv, rfl, hi, st⟩
    obtain ⟨rfl, rfl⟩ : _ ∧ _ := by simpa using hv
    clear hv
    refine ⟨_, _, _, st.cell 4 rfl rfl, Br.dec (fun h4 => ?_) (fun h4 => ?_)⟩
    · have hil : i < m1.ch.mem.length := by omega
      obtain ⟨a2, ha2, hr2⟩ := (ElAt.of_owns memE_len (st.hold 5 _ rfl) rfl : MemAt w p4 m1.ch.mem) i hil
      have hxm := List.getElem_mem hil
      have hx := hok1.node hxm
      refine ⟨_, _, _, st.cell 4 rfl rfl, ?_⟩
      refine NilOk.intro ha2 ⟨⟨by omega, by omega⟩, _, by simpa [addr_zero] using Row.get hr2 (j := 0) rfl, ?_⟩
      clear ha2 hr2
      have hlen : m1.ch.mem.length - (i + 1) < m1.ch.mem.length - i := by omega
      generalize m1.ch.mem[i] = x at *
      have hhr : 0 ≤ m1.heard.getD x.1.toNat 0 ∧ m1.heard.getD x.1.toNat 0 ≤ 1099511627776 := by
        have := hok1.hl
        rw [List.getD_eq_getElem?_getD, List.getElem?_eq_getElem (by omega)]
        exact hok1.hr _ (List.getElem_mem (by omega))
      refine ⟨_, _, _, _, _, st.rowAt 0 rfl rfl, ?_⟩
      refine Pw.go (csince_pw (c := m2.ch) (ElAt.of_owns memE_len (st.hold 1 _ rfl) rfl) rfl (by omega) x.1) st ?_; clear st; intro w st
      refine ⟨_, _, rfl, Br.dec (fun hh => absurd hh (by omega)) (fun _ => Br.dec (fun hh => absurd hh (by omega)) (fun _ => ?_))⟩
      have hsi : (sinceC m2.ch x.1).2 = m2.has x.1 := rfl
      rw [hsi]
      refine Br.not (Br.bool (fun hin => ?_) (fun hin => ?_))
      · refine ⟨fun q v w' => ∃ (t : Nat) (B : Bool), v = [.bool B, .int .i64 (t : Int)] ∧ q = m2.ch.mem.length - t ∧ t ≤ m2.ch.mem.length ∧ B = ((m2.ch.mem.take t).any fun y => y.1 != x.1 && m2.wh y.1) ∧ St No w0 w' [.blk bi 32 [.int .i64 m2.ch.epoch, .slice p6 m2.ch.mem.length k6, .int .i64 m2.ch.drain], mR m2.ch.mem p6 k6, mB g f pz f.quanta.length kz m2 p5 k5, mR m2.ch.mem p5 k5, .blk bw 32 [.int .i64 m1.ch.epoch, .slice p4 m1.ch.mem.length k4, .int .i64 m1.ch.drain], mR m1.ch.mem p4 k4, .blk bc 24 (cfL f pz f.quanta.length kz), .blk bh 45 (m1.heard.map (Value.int .i64))], ⟨_, 0, false, rfl, rfl, by omega, rfl, st⟩, ?_⟩
        clear st
        rintro Bo _ _ w ⟨t, _, hv, rfl, ht, hBo, st⟩
        obtain ⟨rfl, rfl⟩ : _ ∧ _ := by simpa using hv
        clear hv
        refine ⟨_, _, _, st.cell 0 rfl rfl, Br.dec (fun h8 => ?_) (fun h8 => ?_)⟩
        · have hil : t < m2.ch.mem.length := by omega
          have hB' : ((m2.ch.mem.take (t + 1)).any fun y => y.1 != x.1 && m2.wh y.1) = (Bo || (m2.ch.mem[t].1 != x.1 && m2.wh m2.ch.mem[t].1)) := by
            rw [List.take_succ_eq_append_getElem hil, List.any_append, ← hBo]
            simp
          obtain ⟨a2, ha2, hr2⟩ := (ElAt.of_owns memE_len (st.hold 1 _ rfl) rfl : MemAt w p6 m2.ch.mem) t hil
          have hhas : m2.has m2.ch.mem[t].1 = true := (Mst.has_mem hok2.ok _).2 (List.mem_map.2 ⟨_, List.getElem_mem hil, rfl⟩)
          refine Br.bool (fun h9 => ?_) (fun h9 => ?_)
          · refine LetI.id (by omega) (by omega) ⟨_, by omega, t + 1, true, by simp, rfl, by omega, ?_, st⟩
            rw [hB', h9, Bool.true_or]
          · refine ⟨_, _, _, st.cell 0 rfl rfl, ?_⟩
            refine NilOk.intro ha2 ⟨⟨by omega, by omega⟩, _, by simpa [addr_zero] using Row.get hr2 (j := 0) rfl, ?_⟩
            refine Br.nei (fun h10 => ?_) (fun h10 => ?_)
            · refine ⟨_, _, _, st.cell 0 rfl rfl, ?_⟩
              refine NilOk.intro ha2 ⟨⟨by omega, by omega⟩, _, by simpa [addr_zero] using Row.get hr2 (j := 0) rfl, ?_⟩
              refine Pw.go (mwhole_pw (st.hold 2 _ rfl) (ElAt.of_owns memE_len (st.hold 3 _ rfl) rfl) hok2 _) st ?_; clear st; intro w st
              refine ⟨_, rfl, LetI.id (by omega) (by omega) ⟨_, by omega, t + 1, (m2.has m2.ch.mem[t].1 && m2.wh m2.ch.mem[t].1), by simp, rfl, by omega, ?_, st⟩⟩
              rw [hB', h9, hhas, Bool.false_or, bne_iff_ne.2 h10]
            · refine LetI.id (by omega) (by omega) ⟨_, by omega, t + 1, false, by simp, rfl, by omega, ?_, st⟩
              rw [hB', h9, h10]
              simp
        have hgo : Bo = m2.goes x.1 := by rw [hBo, List.take_of_length_le (by omega)]; rfl
        clear hBo h8 ht
        subst hgo
        rw [hin]
        refine Br.sure rfl ⟨⟨by omega, by omega⟩, _, by rw [addHead]; exact st.cell 7 (i := x.1.toNat) rfl (heardCell hok1.hl (by omega)), LetI.id (by omega) (by omega) ⟨_, st.cell 6 rfl rfl, ?_⟩⟩
        refine Br.dec (fun h11 => ?_) (fun h11 => ?_)
        · rw [hno x hxm hin (by rw [hnt, hpt1]; exact h11)]
          refine Br.nay rfl ?_
          exact LetI.id (by omega) (by omega) ⟨_, hlen, i + 1, by simp, rfl, by omega, st⟩
        · exact LetI.id (by omega) (by omega) ⟨_, hlen, i + 1, by simp, rfl, by omega, st⟩
      · have hgone := hfo.gone x hxm (fun hh => by
          have := (Mst.has_mem hok2.ok x.1).2 (List.mem_map.2 ⟨x, hh, rfl⟩)
          rw [hin] at this; cases this)
        rw [hnt, hpt1] at hgone
        refine ⟨⟨by omega, by omega⟩, _, by rw [addHead]; exact st.cell 7 (i := x.1.toNat) rfl (heardCell hok1.hl (by omega)), LetI.id (by omega) (by omega) ⟨_, st.cell 6 rfl rfl, ?_⟩⟩
        refine Br.dec (fun h11 => absurd h11 (by omega)) (fun _ => ?_)
        refine ⟨fun q v w' => ∃ (t : Nat) (B : Bool), v = [.bool B, .int .i64 (t : Int)] ∧ q = m2.ch.mem.length - t ∧ t ≤ m2.ch.mem.length ∧ B = ((m2.ch.mem.take t).any fun y => y.1 != x.1 && m2.wh y.1) ∧ St No w0 w' [.blk bi 32 [.int .i64 m2.ch.epoch, .slice p6 m2.ch.mem.length k6, .int .i64 m2.ch.drain], mR m2.ch.mem p6 k6, mB g f pz f.quanta.length kz m2 p5 k5, mR m2.ch.mem p5 k5, .blk bw 32 [.int .i64 m1.ch.epoch, .slice p4 m1.ch.mem.length k4, .int .i64 m1.ch.drain], mR m1.ch.mem p4 k4, .blk bc 24 (cfL f pz f.quanta.length kz), .blk bh 45 (m1.heard.map (Value.int .i64))], ⟨_, 0, false, rfl, rfl, by omega, rfl, st⟩, ?_⟩
        clear st
        rintro Bo _ _ w ⟨t, _, hv, rfl, ht, hBo, st⟩
        obtain ⟨rfl, rfl⟩ : _ ∧ _ := by simpa using hv
        clear hv
        refine ⟨_, _, _, st.cell 0 rfl rfl, Br.dec (fun h8 => ?_) (fun h8 => ?_)⟩
        · have hil : t < m2.ch.mem.length := by omega
          have hB' : ((m2.ch.mem.take (t + 1)).any fun y => y.1 != x.1 && m2.wh y.1) = (Bo || (m2.ch.mem[t].1 != x.1 && m2.wh m2.ch.mem[t].1)) := by
            rw [List.take_succ_eq_append_getElem hil, List.any_append, ← hBo]
            simp
          obtain ⟨a2, ha2, hr2⟩ := (ElAt.of_owns memE_len (st.hold 1 _ rfl) rfl : MemAt w p6 m2.ch.mem) t hil
          have hhas : m2.has m2.ch.mem[t].1 = true := (Mst.has_mem hok2.ok _).2 (List.mem_map.2 ⟨_, List.getElem_mem hil, rfl⟩)
          refine Br.bool (fun h9 => ?_) (fun h9 => ?_)
          · refine LetI.id (by omega) (by omega) ⟨_, by omega, t + 1, true, by simp, rfl, by omega, ?_, st⟩
            rw [hB', h9, Bool.true_or]
          · refine ⟨_, _, _, st.cell 0 rfl rfl, ?_⟩
            refine NilOk.intro ha2 ⟨⟨by omega, by omega⟩, _, by simpa [addr_zero] using Row.get hr2 (j := 0) rfl, ?_⟩
            refine Br.nei (fun h10 => ?_) (fun h10 => ?_)
            · refine ⟨_, _, _, st.cell 0 rfl rfl, ?_⟩
              refine NilOk.intro ha2 ⟨⟨by omega, by omega⟩, _, by simpa [addr_zero] using Row.get hr2 (j := 0) rfl, ?_⟩
              refine Pw.go (mwhole_pw (st.hold 2 _ rfl) (ElAt.of_owns memE_len (st.hold 3 _ rfl) rfl) hok2 _) st ?_; clear st; intro w st
              refine ⟨_, rfl, LetI.id (by omega) (by omega) ⟨_, by omega, t + 1, (m2.has m2.ch.mem[t].1 && m2.wh m2.ch.mem[t].1), by simp, rfl, by omega, ?_, st⟩⟩
              rw [hB', h9, hhas, Bool.false_or, bne_iff_ne.2 h10]
            · refine LetI.id (by omega) (by omega) ⟨_, by omega, t + 1, false, by simp, rfl, by omega, ?_, st⟩
              rw [hB', h9, h10]
              simp
        have hgo : Bo = m2.goes x.1 := by rw [hBo, List.take_of_length_le (by omega)]; rfl
        clear hBo h8 ht
        subst hgo
        rw [hin]
        refine Br.nay rfl ?_
        exact LetI.id (by omega) (by omega) ⟨_, hlen, i + 1, by simp, rfl, by omega, st⟩
    · have hh : m1.heard = m2.heard := hfo.heard.symm
      rw [hh] at st
      exact LetI.id (by omega) (by omega) ⟨_, by omega, j + 1, m2, p5, k5, now, by simp, rfl, by omega, hnow1, by omega, hok2, hfo.nodes.trans hns1, hfo.pat.trans hpt1, by omega, st.pick [2, 3, 6, 7] rfl (by decide)⟩
  · refine Pu.go mchained_pu st ?_; clear st; intro w st
    exact ⟨_, rfl, rfl, st.kp⟩
end Go.Proofs.Ytljipmhkpnigkaa
