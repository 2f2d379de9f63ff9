/- MasterRises: what is claimed is so, for whatever comes in. -/
import Derived.Test.YtljipmhkpnigkaaMM
import Derived.Test.YtljipmhkpnigkaaDM5
namespace Go.Proofs.Ytljipmhkpnigkaa
open Go.Vc Go.Codec

theorem setsL_all {l cs : List Value} (h : l.length = cs.length) : setsL cs 0 l = l := by
  rw [setsL_eq l cs 0 (by omega)]
  simp [h]
theorem drained_same {m : Mst} {n e : Int} (h : (m.drained n e).2 = false) : (m.drained n e).1 = m := by
  unfold Mst.drained at h ⊢
  split at h
  · rename_i h1
    rw [if_pos h1]
    unfold Mst.out at h ⊢
    split at h
    · rename_i h2; rw [if_pos h2]
    · cases h
  · rename_i h1; rw [if_neg h1]
set_option maxRecDepth 100000 in
set_option maxHeartbeats 8000000 in
theorem lawMRises_pw {w0 : World} {n k : Nat} {p : Option Addr} {c : Cfg} (hM : IntAt w0 p c.quanta) (hn : n = c.quanta.length) (hk : n ≤ k) (_hk' : k ≤ maxLen) {nq kq : Nat} {pq : Option Addr} {l : List ActR} (hA : ActRAt w0 pq l) (hnq : nq = l.length) (hlq : l.length ≤ maxLen) {nt kt : Nat} {pt : Option Addr} {tk : List U8S} (hT : TkAt w0 pt tk) (hnt : nt = tk.length) :
    Pw Try.prog 6 #[cfV c p n k, .slice pq nq kq, .slice pt nt kt] (.bool true) w0 := by
  have st : St No w0 w0 [] := St.start w0
  subst hn hnq hnt
  refine lawMRises_ok _ _ _ _ _ _ _ _ _ _ _ _ _ _ _ _ _ _ _ _ _ _ ?_
  unfold lawMRises
  refine St.alloc st ?_; clear st; intro bc w st
  refine ⟨_, _, _, st.cell 0 rfl rfl, Br.dec (fun h1 => ?_) (fun h1 => ?_)⟩
  · refine Pu.go mchained_pu st ?_; clear st; intro w st
    exact ⟨_, rfl, rfl, st.kp⟩
  obtain ⟨B, hB, hG⟩ := mgreat_pw (k := kq) (n := l.length) (l := l.map ActR.toM) (ActRAt.toM (hA.no st.kp)) (by simp) (by simpa using hlq) 80
  refine Pw.go hG st ?_; clear st hG; intro w st
  refine ⟨_, rfl, Br.bool (fun h2 => ?_) (fun h2 => ?_)⟩
  · refine Pu.go mchained_pu st ?_; clear st; intro w st
    exact ⟨_, rfl, rfl, st.kp⟩
  have hll := hB h2
  rw [List.length_map] at hll
  clear hB h2 hlq
  refine Br.dec (fun h3 => ?_) (fun h3 => ?_)
  · refine Pu.go mchained_pu st ?_; clear st; intro w st
    exact ⟨_, rfl, rfl, st.kp⟩
  refine ⟨_, _, _, _, _, _, _, _, _, _, _, _, _, _, st.rowAt 0 rfl rfl, ?_⟩
  refine (sfit_ca (c := c) (hM.no st.kp) rfl hk _hk').mono ?_
  rintro _ w1 ⟨_, rfl, pz, kz, rfl, ho, hk1⟩
  replace st := st.pushRow0 hk1 ho (Nat.le_refl _)
  clear ho hk1
  refine ⟨_, _, _, _, _, _, _, _, _, _, _, _, _, _, rfl, ?_⟩
  repeat' first
    | (with_reducible refine St.alloc st ?_; (try clear st); intro b w st)
    | with_reducible refine sz_and (by (repeat rw [ByteArray.size_append]); omega) ?_
    | (with_reducible apply ex0c; case h => first | exact St.cell st 0 rfl rfl | exact St.cell st 1 rfl rfl | fail)
    | (with_reducible apply ex1c; case h => first | exact St.cell st 0 rfl rfl | exact St.cell st 1 rfl rfl | fail)
    | (with_reducible apply ex3c; case h => first | exact St.cell st 0 rfl rfl | exact St.cell st 1 rfl rfl | fail)
    | (with_reducible apply ex0r; case h => first | exact St.rows st 0 rfl | exact St.rows st 1 rfl | fail)
    | (with_reducible apply exr2; case h => first | exact St.rows st 0 rfl | exact St.rows st 1 rfl | fail)
    | (with_reducible apply exr3; case h => first | exact St.rows st 0 rfl | exact St.rows st 1 rfl | fail)
    | (with_reducible apply exr4; case h => first | exact St.rows st 0 rfl | exact St.rows st 1 rfl | fail)
    | (with_reducible apply exr5; case h => first | exact St.rows st 0 rfl | exact St.rows st 1 rfl | fail)
    | (with_reducible apply exr6; case h => first | exact St.rows st 0 rfl | exact St.rows st 1 rfl | fail)
    | (with_reducible apply exr14; case h => first | exact St.rows st 0 rfl | exact St.rows st 1 rfl | fail)
    | (with_reducible apply exWr; case h => first | exact St.wr st 0 rfl rfl | exact St.wr st 1 rfl rfl | fail)
    | (with_reducible apply exWrRow; case h => first | exact St.wrRow st 0 rfl rfl rfl | exact St.wrRow st 1 rfl rfl rfl | fail)
    | (with_reducible refine LetW.cell ?_; (first | refine St.store st 0 rfl ?_ | refine St.store st 1 rfl ?_ | fail); (try clear st); intro w st; simp only [List.set] at st)
    | (with_reducible refine LetW.rows ?_; (first | refine St.storeRow st 0 rfl ?_ | refine St.storeRow st 1 rfl ?_ | fail); (try clear st); intro w st; simp only [List.set, setsL] at st)
    | ((with_reducible apply exr4); case h => first | exact St.rowAt st 0 rfl rfl | exact St.rowAt st 1 rfl rfl | fail)
    | ((with_reducible apply exr5); case h => first | exact St.rowAt st 0 rfl rfl | exact St.rowAt st 1 rfl rfl | fail)
    | ((with_reducible apply exr6); case h => first | exact St.rowAt st 0 rfl rfl | exact St.rowAt st 1 rfl rfl | fail)
    | with_reducible refine LetI.id (by omega) (by omega) ?_
    | fail
  have hcap := owns_cap (st.hold 0 _ rfl)
  refine (mnew_ca (c := fitS c) (ElAt.of_owns intE_len (st.hold 0 _ rfl) rfl) rfl hcap.1 hcap.2 (fitS_ok _)).mono ?_
  rintro _ w1 ⟨g, p0, k0, rfl, st1⟩
  replace st := st.made st1
  clear st1 hcap
  simp only [List.cons_append, List.nil_append] at st
  refine ⟨_, _, rfl, Br.nay rfl ?_⟩
  have hok0 := okM.new_ok (fitS_ok c) (firstS_ok (fitS_ok c))
  have hN := (fitS_ok c).nodes
  unfold inS at hN
  generalize fitS c = f at *
  refine ⟨fun q v w' => ∃ (j : Nat) (m : Mst) (p2 : Option Addr) (k2 : Nat) (now : Int), v = [.int .i64 now, .bool false, .int .i64 (j : Int)] ∧ q = l.length - j ∧ j ≤ l.length ∧ 0 ≤ now ∧ now ≤ 255 * j ∧ okM m ∧ m.nodes = f.nodes ∧ m.ch.epoch ≤ 1 + 6 * j ∧ St No w0 w' [mB g f pz f.quanta.length kz m p2 k2, mR m.ch.mem p2 k2, .blk bc 24 (cfL f pz f.quanta.length kz)], ⟨_, 0, Mst.new f, p0, k0, 0, rfl, rfl, by omega, by omega, by omega, hok0, rfl, by show (1 : Int) ≤ _; omega, st.pick [0, 1, 3] rfl (by decide)⟩, ?_⟩
  clear st hok0
  rintro _ _ _ _ w ⟨j, m, p2, k2, now0, hv, rfl, hj, hnow1, hnow2, hok, hns, hep, st⟩
  obtain ⟨rfl, rfl, rfl⟩ : _ ∧ _ ∧ _ := by simpa using hv
  clear hv
  refine Br.dec (fun h3 => ?_) (fun h3 => ?_)
  · have hjl : j < l.length := by omega
    obtain ⟨a, ha, hr⟩ := hA j hjl
    replace hr := Row.kp st.kp (not_no _) hr
    have hx1 := l[j].hk
    have hx2 := l[j].ha
    have hx3 := l[j].hb
    have hl1 := hok.ok.l2
    have hem := hok.ok.e1
    refine NilOk.intro ha ⟨⟨by omega, by omega⟩, _, _, _, _, _, _, _, _, _, _, _, _, _, _, _, _, _, _, _, _, _, _, _, _, _, _, _, _, _, _, _, _, _, _, _, hr, ?_⟩
    clear ha hr
    refine St.alloc st ?_; clear st; intro ba w st
    refine ⟨st.wrRow 0 rfl rfl rfl, ?_⟩
    refine St.storeRow st 0 rfl ?_
    clear st
    intro w st
    replace st : St No w0 w [.blk ba 55 (actL l[j]), mB g f pz f.quanta.length kz m p2 k2, mR m.ch.mem p2 k2, .blk bc 24 (cfL f pz f.quanta.length kz)] := by
      rw [setsL_all] at st
      · exact st
      · rfl
    refine ⟨fun v w' => ∃ (now : Int), v = [.int .i64 now] ∧ 0 ≤ now ∧ now ≤ 255 * (j + 1) ∧ St No w0 w' [.blk ba 55 (actL l[j]), mB g f pz f.quanta.length kz m p2 k2, mR m.ch.mem p2 k2, .blk bc 24 (cfL f pz f.quanta.length kz)], ?_, ?_⟩
    · refine Br.dec (fun h4 => ?_) (fun h4 => ?_)
      · have hjt : j < tk.length := by omega
        obtain ⟨a, ha, hr⟩ := hT j hjt
        replace hr := Row.kp st.kp (not_no _) hr
        have hx := tk[j].2
        refine NilOk.intro ha ⟨⟨by omega, by omega⟩, _, by simpa [addr_zero] using Row.get hr (j := 0) rfl, ?_⟩
        exact LetI.id (by omega) (by omega) (LetI.id (by omega) (by omega) ⟨_, rfl, by omega, by omega, st⟩)
      · exact ⟨_, rfl, hnow1, by omega, st⟩
    clear st hnow1 hnow2
    rintro now w ⟨_, hv, hnow1, hnow2, st⟩
    obtain rfl : now = _ := by simpa using hv
    clear hv
    refine ⟨_, st.cell 0 rfl rfl, LetI.id (by omega) (by omega) ⟨by omega, LetI.of ?_⟩⟩
    have hn := tmod_in hx2.1 (show (0 : Int) < 7 by omega)
    generalize l[j].a.tmod 7 = n at *
    refine Tk.go (L1 := [mB g f pz f.quanta.length kz m p2 k2, mR m.ch.mem p2 k2]) (L2 := [.blk ba 55 (actL l[j]), .blk bc 24 (cfL f pz f.quanta.length kz)]) (mchain_tk hok) (st.pick [1, 2, 0, 3] rfl (by decide)) ?_
    clear st
    rintro _ _ w ⟨p4, k4, rfl, rfl⟩ st
    simp only [List.cons_append, List.nil_append] at st
    refine ⟨_, _, _, _, _, rfl, ?_⟩
    refine St.alloc st ?_; clear st; intro bw w st
    repeat' first
      | (with_reducible refine St.alloc st ?_; (try clear st); intro b w st)
      | with_reducible refine sz_and (by (repeat rw [ByteArray.size_append]); omega) ?_
      | (with_reducible apply ex0c; case h => first | exact St.cell st 0 rfl rfl | exact St.cell st 1 rfl rfl | exact St.cell st 2 rfl rfl | exact St.cell st 3 rfl rfl | exact St.cell st 4 rfl rfl | exact St.cell st 5 rfl rfl | fail)
      | (with_reducible apply ex1c; case h => first | exact St.cell st 0 rfl rfl | exact St.cell st 1 rfl rfl | exact St.cell st 2 rfl rfl | exact St.cell st 3 rfl rfl | exact St.cell st 4 rfl rfl | exact St.cell st 5 rfl rfl | fail)
      | (with_reducible apply ex3c; case h => first | exact St.cell st 0 rfl rfl | exact St.cell st 1 rfl rfl | exact St.cell st 2 rfl rfl | exact St.cell st 3 rfl rfl | exact St.cell st 4 rfl rfl | exact St.cell st 5 rfl rfl | fail)
      | (with_reducible apply ex0r; case h => first | exact St.rows st 0 rfl | exact St.rows st 1 rfl | exact St.rows st 2 rfl | exact St.rows st 3 rfl | exact St.rows st 4 rfl | exact St.rows st 5 rfl | fail)
      | (with_reducible apply exr2; case h => first | exact St.rows st 0 rfl | exact St.rows st 1 rfl | exact St.rows st 2 rfl | exact St.rows st 3 rfl | exact St.rows st 4 rfl | exact St.rows st 5 rfl | fail)
      | (with_reducible apply exr3; case h => first | exact St.rows st 0 rfl | exact St.rows st 1 rfl | exact St.rows st 2 rfl | exact St.rows st 3 rfl | exact St.rows st 4 rfl | exact St.rows st 5 rfl | fail)
      | (with_reducible apply exr4; case h => first | exact St.rows st 0 rfl | exact St.rows st 1 rfl | exact St.rows st 2 rfl | exact St.rows st 3 rfl | exact St.rows st 4 rfl | exact St.rows st 5 rfl | fail)
      | (with_reducible apply exr5; case h => first | exact St.rows st 0 rfl | exact St.rows st 1 rfl | exact St.rows st 2 rfl | exact St.rows st 3 rfl | exact St.rows st 4 rfl | exact St.rows st 5 rfl | fail)
      | (with_reducible apply exr6; case h => first | exact St.rows st 0 rfl | exact St.rows st 1 rfl | exact St.rows st 2 rfl | exact St.rows st 3 rfl | exact St.rows st 4 rfl | exact St.rows st 5 rfl | fail)
      | (with_reducible apply exWr; case h => first | exact St.wr st 0 rfl rfl | exact St.wr st 1 rfl rfl | exact St.wr st 2 rfl rfl | exact St.wr st 3 rfl rfl | exact St.wr st 4 rfl rfl | exact St.wr st 5 rfl rfl | fail)
      | (with_reducible apply exWrRow; case h => first | exact St.wrRow st 0 rfl rfl rfl | exact St.wrRow st 1 rfl rfl rfl | exact St.wrRow st 2 rfl rfl rfl | exact St.wrRow st 3 rfl rfl rfl | exact St.wrRow st 4 rfl rfl rfl | exact St.wrRow st 5 rfl rfl rfl | fail)
      | (with_reducible refine LetW.cell ?_; (first | refine St.store st 0 rfl ?_ | refine St.store st 1 rfl ?_ | refine St.store st 2 rfl ?_ | refine St.store st 3 rfl ?_ | refine St.store st 4 rfl ?_ | refine St.store st 5 rfl ?_ | fail); (try clear st); intro w st; simp only [List.set] at st)
      | (with_reducible refine LetW.rows ?_; (first | refine St.storeRow st 0 rfl ?_ | refine St.storeRow st 1 rfl ?_ | refine St.storeRow st 2 rfl ?_ | refine St.storeRow st 3 rfl ?_ | refine St.storeRow st 4 rfl ?_ | refine St.storeRow st 5 rfl ?_ | fail); (try clear st); intro w st; simp only [List.set, setsL] at st)
      | ((with_reducible apply exr4); case h => first | exact St.rowAt st 0 rfl rfl | exact St.rowAt st 1 rfl rfl | exact St.rowAt st 2 rfl rfl | exact St.rowAt st 3 rfl rfl | exact St.rowAt st 4 rfl rfl | exact St.rowAt st 5 rfl rfl | fail)
      | ((with_reducible apply exr5); case h => first | exact St.rowAt st 0 rfl rfl | exact St.rowAt st 1 rfl rfl | exact St.rowAt st 2 rfl rfl | exact St.rowAt st 3 rfl rfl | exact St.rowAt st 4 rfl rfl | exact St.rowAt st 5 rfl rfl | fail)
      | ((with_reducible apply exr6); case h => first | exact St.rowAt st 0 rfl rfl | exact St.rowAt st 1 rfl rfl | exact St.rowAt st 2 rfl rfl | exact St.rowAt st 3 rfl rfl | exact St.rowAt st 4 rfl rfl | exact St.rowAt st 5 rfl rfl | fail)
      | with_reducible refine LetI.id (by omega) (by omega) ?_
      | fail
    refine ⟨fun v w' => ∃ (m1 : Mst) (p3 : Option Addr) (k3 : Nat) (er sent : Int), v = [.int .i64 er, .int .i64 sent, .bool false] ∧ Rise m m1 ∧ (er = 0 → m.ch.epoch < m1.ch.epoch) ∧ (m1.ch.epoch ≠ m.ch.epoch → sent = f.nodes) ∧ St No w0 w' [mB g f pz f.quanta.length kz m1 p3 k3, mR m1.ch.mem p3 k3, .blk bw 32 [.int .i64 m.ch.epoch, .slice p4 m.ch.mem.length k4, .int .i64 m.ch.drain], mR m.ch.mem p4 k4, .blk ba 55 (actL l[j]), .blk bc 24 (cfL f pz f.quanta.length kz)], ?_, ?_⟩
    · refine ⟨_, st.cell 4 rfl rfl, by omega, LetI.of ?_⟩
      replace st : St No w0 _ [mB g f pz f.quanta.length kz m p2 k2, mR m.ch.mem p2 k2, .blk bw 32 [.int .i64 m.ch.epoch, .slice p4 m.ch.mem.length k4, .int .i64 m.ch.drain], mR m.ch.mem p4 k4, .blk ba 55 (actL l[j]), .blk bc 24 (cfL f pz f.quanta.length kz)] := st.pick [2, 3, 0, 1, 4, 5] rfl (by decide)
      refine Br.eqi (fun _ => ?_) (fun _ => Br.eqi (fun _ => ?_) (fun _ => Br.eqi (fun _ => ?_) (fun _ => Br.eqi (fun hk1 => Br.eqi (fun _ => ?_) (fun hh => absurd hk1 hh)) (fun _ => Br.eqi (fun _ => ?_) (fun _ => Br.eqi (fun _ => ?_) (fun _ => ?_))))))
      · refine Tk.go (L1 := [mB g f pz f.quanta.length kz m p2 k2, mR m.ch.mem p2 k2]) (L2 := [.blk bw 32 [.int .i64 m.ch.epoch, .slice p4 m.ch.mem.length k4, .int .i64 m.ch.drain], mR m.ch.mem p4 k4, .blk ba 55 (actL l[j]), .blk bc 24 (cfL f pz f.quanta.length kz)]) (msuspect_u hok n) st ?_
        clear st
        rintro _ _ w ⟨_, _, _, p3, k3, rfl, hse, rfl⟩ st
        obtain ⟨hri, hy, hno⟩ := rise_suspect hok (by omega) n
        exact ⟨_, _, _, _, rfl, _, p3, k3, _, _, rfl, hri, hy, fun hh => (hse (Decidable.byContradiction fun hz => hh (by rw [hno hz]))).trans hns, st⟩
      · refine Tk.go (L1 := [mB g f pz f.quanta.length kz m p2 k2, mR m.ch.mem p2 k2]) (L2 := [.blk bw 32 [.int .i64 m.ch.epoch, .slice p4 m.ch.mem.length k4, .int .i64 m.ch.drain], mR m.ch.mem p4 k4, .blk ba 55 (actL l[j]), .blk bc 24 (cfL f pz f.quanta.length kz)]) (mjoin_tk hok n now) st ?_
        clear st
        rintro _ _ w ⟨_, _, _, p3, k3, rfl, hse, rfl⟩ st
        obtain ⟨hri, hy, hno⟩ := rise_join hok n now
        have hsn := fun (hh : (m.join n now).1.ch.epoch ≠ m.ch.epoch) => (hse (Decidable.byContradiction fun hz => hh (by rw [hno hz]))).trans hns
        generalize m.join n now = J at *
        obtain ⟨m1, er⟩ := J
        dsimp only at *
        have hl2 := hri.ok.ok.l2
        refine ⟨_, _, _, _, rfl, Br.eqi (fun h5 => ?_) (fun h5 => ?_)⟩
        · obtain ⟨g1, g2, g3, _⟩ := hy h5
          refine Tk.go (L1 := [mB g f pz f.quanta.length kz m1 p3 k3, mR m1.ch.mem p3 k3]) (L2 := [.blk bw 32 [.int .i64 m.ch.epoch, .slice p4 m.ch.mem.length k4, .int .i64 m.ch.drain], mR m.ch.mem p4 k4, .blk ba 55 (actL l[j]), .blk bc 24 (cfL f pz f.quanta.length kz)]) (mchain_tk hri.ok) st ?_
          clear st
          rintro _ _ w ⟨p5, k5, rfl, rfl⟩ st
          simp only [List.cons_append, List.nil_append] at st
          refine ⟨_, _, _, _, _, rfl, ?_⟩
          refine Pw.go (ctail_pw (c := m1.ch) (ElAt.of_owns memE_len (st.hold 0 _ rfl) rfl) rfl (by omega)) st ?_; clear st; intro w st
          refine ⟨_, rfl, Br.nei (fun hh => absurd g2 hh) (fun _ => ?_)⟩
          refine Pw.go (mwhole_pw (st.hold 1 _ rfl) (ElAt.of_owns memE_len (st.hold 2 _ rfl) rfl) hri.ok n) st ?_; clear st; intro w st
          refine ⟨_, rfl, ?_⟩
          rw [g3, Bool.and_false]
          exact Br.nay rfl ⟨_, p3, k3, _, _, rfl, hri, fun _ => g1, hsn, st.tail⟩
        · exact ⟨_, p3, k3, _, _, rfl, hri, fun hh => absurd hh h5, hsn, st⟩
      · refine Tk.go (L1 := [mB g f pz f.quanta.length kz m p2 k2, mR m.ch.mem p2 k2]) (L2 := [.blk bw 32 [.int .i64 m.ch.epoch, .slice p4 m.ch.mem.length k4, .int .i64 m.ch.drain], mR m.ch.mem p4 k4, .blk ba 55 (actL l[j]), .blk bc 24 (cfL f pz f.quanta.length kz)]) (mdrain_u hok n) st ?_
        clear st
        rintro _ _ w ⟨_, _, _, p3, k3, rfl, hse, rfl⟩ st
        obtain ⟨hri, hy, hno⟩ := rise_drain hok n
        have hsn := fun (hh : (m.drain n).1.ch.epoch ≠ m.ch.epoch) => (hse (Decidable.byContradiction fun hz => hh (by rw [hno hz]))).trans hns
        generalize m.drain n = J at *
        obtain ⟨m1, er⟩ := J
        dsimp only at *
        refine ⟨_, _, _, _, rfl, Br.eqi (fun h5 => ?_) (fun h5 => ?_)⟩
        · obtain ⟨g1, g2⟩ := hy h5
          refine Tk.go (L1 := [mB g f pz f.quanta.length kz m1 p3 k3, mR m1.ch.mem p3 k3]) (L2 := [.blk bw 32 [.int .i64 m.ch.epoch, .slice p4 m.ch.mem.length k4, .int .i64 m.ch.drain], mR m.ch.mem p4 k4, .blk ba 55 (actL l[j]), .blk bc 24 (cfL f pz f.quanta.length kz)]) (mchain_tk hri.ok) st ?_
          clear st
          rintro _ _ w ⟨p5, k5, rfl, rfl⟩ st
          simp only [List.cons_append, List.nil_append] at st
          refine ⟨_, _, _, _, _, rfl, Br.nei (fun hh => absurd g2 hh) (fun _ => ?_)⟩
          exact ⟨_, p3, k3, _, _, rfl, hri, fun _ => g1, hsn, st.tail⟩
        · exact ⟨_, p3, k3, _, _, rfl, hri, fun hh => absurd hh h5, hsn, st⟩
      · refine Tk.go (L1 := [mB g f pz f.quanta.length kz m p2 k2, mR m.ch.mem p2 k2]) (L2 := [.blk bw 32 [.int .i64 m.ch.epoch, .slice p4 m.ch.mem.length k4, .int .i64 m.ch.drain], mR m.ch.mem p4 k4, .blk ba 55 (actL l[j]), .blk bc 24 (cfL f pz f.quanta.length kz)]) (mtick_u hok now) st ?_
        clear st
        rintro _ _ w ⟨_, _, _, p3, k3, rfl, hse, rfl⟩ st
        have hri := rise_tick hok (by omega) now
        exact ⟨_, _, _, rfl, _, p3, k3, _, _, rfl, hri, fun hh => absurd hh (by decide), fun hh => (hse hh).trans hns, st⟩
      · refine Tk.go (L1 := [mB g f pz f.quanta.length kz m p2 k2, mR m.ch.mem p2 k2]) (L2 := [.blk bw 32 [.int .i64 m.ch.epoch, .slice p4 m.ch.mem.length k4, .int .i64 m.ch.drain], mR m.ch.mem p4 k4, .blk ba 55 (actL l[j]), .blk bc 24 (cfL f pz f.quanta.length kz)]) (mtick_u hok now) st ?_
        clear st
        rintro _ _ w ⟨_, _, _, p3, k3, rfl, hse, rfl⟩ st
        have hri := rise_tick hok (by omega) now
        exact ⟨_, _, _, rfl, _, p3, k3, _, _, rfl, hri, fun hh => absurd hh (by decide), fun hh => (hse hh).trans hns, st⟩
      · refine ⟨_, st.cell 2 rfl rfl, ?_⟩
        rcases Int.lt_or_le n m.nodes with hnn | hnn
        · refine Tk.go (L1 := [mB g f pz f.quanta.length kz m p2 k2, mR m.ch.mem p2 k2]) (L2 := [.blk bw 32 [.int .i64 m.ch.epoch, .slice p4 m.ch.mem.length k4, .int .i64 m.ch.drain], mR m.ch.mem p4 k4, .blk ba 55 (actL l[j]), .blk bc 24 (cfL f pz f.quanta.length kz)]) (mtakeDrained_u hok (n := n) ⟨hn.1, hnn⟩ _ 0 now (by omega)) st ?_
          clear st
          rintro _ _ w ⟨_, _, _, p3, k3, rfl, hse, rfl⟩ st
          have hri := rise_drained hok (by omega) hn.1 m.ch.epoch
          refine ⟨_, _, _, rfl, _, p3, k3, _, _, rfl, hri, fun hh => absurd hh (by decide), fun hh => ?_, st⟩
          rw [← hns]
          refine hse ?_
          cases hd : (m.drained n m.ch.epoch).2 with
          | true => rfl
          | false =>
            exfalso
            apply hh
            rw [drained_same hd]
        · refine Tk.go (L1 := [mB g f pz f.quanta.length kz m p2 k2, mR m.ch.mem p2 k2]) (L2 := [.blk bw 32 [.int .i64 m.ch.epoch, .slice p4 m.ch.mem.length k4, .int .i64 m.ch.drain], mR m.ch.mem p4 k4, .blk ba 55 (actL l[j]), .blk bc 24 (cfL f pz f.quanta.length kz)]) (mtakeOut_tk hok hnn 12 _ 0 now (by decide)) st ?_
          clear st
          rintro _ _ w ⟨rfl, rfl⟩ st
          exact ⟨_, _, _, rfl, m, p2, k2, _, _, rfl, .same hok, fun hh => absurd hh (by decide), fun hh => absurd rfl hh, st⟩
      · refine ⟨_, st.cell 2 rfl rfl, ?_⟩
        refine ⟨_, st.cell 4 rfl rfl, LetI.id (by omega) (by omega) ⟨by omega, LetI.of ?_⟩⟩
        rcases Int.lt_or_le n m.nodes with hnn | hnn
        · refine Tk.go (L1 := [mB g f pz f.quanta.length kz m p2 k2, mR m.ch.mem p2 k2]) (L2 := [.blk bw 32 [.int .i64 m.ch.epoch, .slice p4 m.ch.mem.length k4, .int .i64 m.ch.drain], mR m.ch.mem p4 k4, .blk ba 55 (actL l[j]), .blk bc 24 (cfL f pz f.quanta.length kz)]) (mtakeAlive_tk hok (n := n) ⟨hn.1, hnn⟩ m.ch.epoch _ now) st ?_
          clear st
          rintro _ _ w ⟨_, _, _, rfl, _, rfl⟩ st
          have := hok.n2
          have hri := rise_alive hok (n := n) ⟨hn.1, by omega⟩ m.ch.epoch (l[j].b.tmod 2) (nearT_in now)
          exact ⟨_, _, _, rfl, _, p2, k2, _, _, rfl, hri, fun hh => absurd hh (by decide), fun hh => absurd rfl hh, st⟩
        · refine Tk.go (L1 := [mB g f pz f.quanta.length kz m p2 k2, mR m.ch.mem p2 k2]) (L2 := [.blk bw 32 [.int .i64 m.ch.epoch, .slice p4 m.ch.mem.length k4, .int .i64 m.ch.drain], mR m.ch.mem p4 k4, .blk ba 55 (actL l[j]), .blk bc 24 (cfL f pz f.quanta.length kz)]) (mtakeOut_tk hok hnn 11 _ _ now (by decide)) st ?_
          clear st
          rintro _ _ w ⟨rfl, rfl⟩ st
          exact ⟨_, _, _, rfl, m, p2, k2, _, _, rfl, .same hok, fun hh => absurd hh (by decide), fun hh => absurd rfl hh, st⟩
    clear st
    rintro er sent _ w ⟨m1, p3, k3, _, _, hv, hri, her, hsn, st⟩
    obtain ⟨rfl, rfl, rfl⟩ : er = _ ∧ sent = _ ∧ _ := by simpa using hv
    clear hv
    have hok1 := hri.ok
    have hl2 := hok1.ok.l2
    refine Tk.go (L2 := [.blk bw 32 [.int .i64 m.ch.epoch, .slice p4 m.ch.mem.length k4, .int .i64 m.ch.drain], mR m.ch.mem p4 k4, .blk ba 55 (actL l[j]), .blk bc 24 (cfL f pz f.quanta.length kz)]) (mchain_tk hok1) st ?_
    clear st
    rintro _ _ w ⟨p6, k6, rfl, rfl⟩ st
    simp only [List.cons_append, List.nil_append] at st
    refine ⟨_, _, _, _, _, rfl, ?_⟩
    refine St.alloc st ?_; clear st; intro bi w st
    repeat' first
      | (with_reducible refine St.alloc st ?_; (try clear st); intro b w st)
      | with_reducible refine sz_and (by (repeat rw [ByteArray.size_append]); omega) ?_
      | (with_reducible apply ex0c; case h => first | exact St.cell st 0 rfl rfl | exact St.cell st 1 rfl rfl | exact St.cell st 2 rfl rfl | exact St.cell st 3 rfl rfl | exact St.cell st 4 rfl rfl | exact St.cell st 5 rfl rfl | exact St.cell st 6 rfl rfl | exact St.cell st 7 rfl rfl | fail)
      | (with_reducible apply ex1c; case h => first | exact St.cell st 0 rfl rfl | exact St.cell st 1 rfl rfl | exact St.cell st 2 rfl rfl | exact St.cell st 3 rfl rfl | exact St.cell st 4 rfl rfl | exact St.cell st 5 rfl rfl | exact St.cell st 6 rfl rfl | exact St.cell st 7 rfl rfl | fail)
      | (with_reducible apply ex3c; case h => first | exact St.cell st 0 rfl rfl | exact St.cell st 1 rfl rfl | exact St.cell st 2 rfl rfl | exact St.cell st 3 rfl rfl | exact St.cell st 4 rfl rfl | exact St.cell st 5 rfl rfl | exact St.cell st 6 rfl rfl | exact St.cell st 7 rfl rfl | fail)
      | (with_reducible apply ex0r; case h => first | exact St.rows st 0 rfl | exact St.rows st 1 rfl | exact St.rows st 2 rfl | exact St.rows st 3 rfl | exact St.rows st 4 rfl | exact St.rows st 5 rfl | exact St.rows st 6 rfl | exact St.rows st 7 rfl | fail)
      | (with_reducible apply exr2; case h => first | exact St.rows st 0 rfl | exact St.rows st 1 rfl | exact St.rows st 2 rfl | exact St.rows st 3 rfl | exact St.rows st 4 rfl | exact St.rows st 5 rfl | exact St.rows st 6 rfl | exact St.rows st 7 rfl | fail)
      | (with_reducible apply exr3; case h => first | exact St.rows st 0 rfl | exact St.rows st 1 rfl | exact St.rows st 2 rfl | exact St.rows st 3 rfl | exact St.rows st 4 rfl | exact St.rows st 5 rfl | exact St.rows st 6 rfl | exact St.rows st 7 rfl | fail)
      | (with_reducible apply exr4; case h => first | exact St.rows st 0 rfl | exact St.rows st 1 rfl | exact St.rows st 2 rfl | exact St.rows st 3 rfl | exact St.rows st 4 rfl | exact St.rows st 5 rfl | exact St.rows st 6 rfl | exact St.rows st 7 rfl | fail)
      | (with_reducible apply exr5; case h => first | exact St.rows st 0 rfl | exact St.rows st 1 rfl | exact St.rows st 2 rfl | exact St.rows st 3 rfl | exact St.rows st 4 rfl | exact St.rows st 5 rfl | exact St.rows st 6 rfl | exact St.rows st 7 rfl | fail)
      | (with_reducible apply exr6; case h => first | exact St.rows st 0 rfl | exact St.rows st 1 rfl | exact St.rows st 2 rfl | exact St.rows st 3 rfl | exact St.rows st 4 rfl | exact St.rows st 5 rfl | exact St.rows st 6 rfl | exact St.rows st 7 rfl | fail)
      | (with_reducible apply exWr; case h => first | exact St.wr st 0 rfl rfl | exact St.wr st 1 rfl rfl | exact St.wr st 2 rfl rfl | exact St.wr st 3 rfl rfl | exact St.wr st 4 rfl rfl | exact St.wr st 5 rfl rfl | exact St.wr st 6 rfl rfl | exact St.wr st 7 rfl rfl | fail)
      | (with_reducible apply exWrRow; case h => first | exact St.wrRow st 0 rfl rfl rfl | exact St.wrRow st 1 rfl rfl rfl | exact St.wrRow st 2 rfl rfl rfl | exact St.wrRow st 3 rfl rfl rfl | exact St.wrRow st 4 rfl rfl rfl | exact St.wrRow st 5 rfl rfl rfl | exact St.wrRow st 6 rfl rfl rfl | exact St.wrRow st 7 rfl rfl rfl | fail)
      | (with_reducible refine LetW.cell ?_; (first | refine St.store st 0 rfl ?_ | refine St.store st 1 rfl ?_ | refine St.store st 2 rfl ?_ | refine St.store st 3 rfl ?_ | refine St.store st 4 rfl ?_ | refine St.store st 5 rfl ?_ | refine St.store st 6 rfl ?_ | refine St.store st 7 rfl ?_ | fail); (try clear st); intro w st; simp only [List.set] at st)
      | (with_reducible refine LetW.rows ?_; (first | refine St.storeRow st 0 rfl ?_ | refine St.storeRow st 1 rfl ?_ | refine St.storeRow st 2 rfl ?_ | refine St.storeRow st 3 rfl ?_ | refine St.storeRow st 4 rfl ?_ | refine St.storeRow st 5 rfl ?_ | refine St.storeRow st 6 rfl ?_ | refine St.storeRow st 7 rfl ?_ | fail); (try clear st); intro w st; simp only [List.set, setsL] at st)
      | ((with_reducible apply exr4); case h => first | exact St.rowAt st 0 rfl rfl | exact St.rowAt st 1 rfl rfl | exact St.rowAt st 2 rfl rfl | exact St.rowAt st 3 rfl rfl | exact St.rowAt st 4 rfl rfl | exact St.rowAt st 5 rfl rfl | exact St.rowAt st 6 rfl rfl | exact St.rowAt st 7 rfl rfl | fail)
      | ((with_reducible apply exr5); case h => first | exact St.rowAt st 0 rfl rfl | exact St.rowAt st 1 rfl rfl | exact St.rowAt st 2 rfl rfl | exact St.rowAt st 3 rfl rfl | exact St.rowAt st 4 rfl rfl | exact St.rowAt st 5 rfl rfl | exact St.rowAt st 6 rfl rfl | exact St.rowAt st 7 rfl rfl | fail)
      | ((with_reducible apply exr6); case h => first | exact St.rowAt st 0 rfl rfl | exact St.rowAt st 1 rfl rfl | exact St.rowAt st 2 rfl rfl | exact St.rowAt st 3 rfl rfl | exact St.rowAt st 4 rfl rfl | exact St.rowAt st 5 rfl rfl | exact St.rowAt st 6 rfl rfl | exact St.rowAt st 7 rfl rfl | fail)
      | with_reducible refine LetI.id (by omega) (by omega) ?_
      | fail
    refine Pw.go (samec19_pw (c := m.ch) (d := m1.ch) (ElAt.of_owns memE_len (st.hold 5 _ rfl) rfl) (ElAt.of_owns memE_len (st.hold 1 _ rfl) rfl) rfl rfl (by omega)) st ?_; clear st; intro w st
    refine ⟨_, rfl, _, _, _, _, _, st.rowAt 0 rfl rfl, ?_⟩
    refine Pw.go (ccheck_pw (c := m1.ch) (ElAt.of_owns memE_len (st.hold 1 _ rfl) rfl) rfl) st ?_; clear st; intro w st
    rw [chkC_ok.2 hok1.ok]
    refine ⟨_, rfl, Br.nay rfl ⟨_, st.cell 0 rfl rfl, _, st.cell 4 rfl rfl, ?_⟩⟩
    have hle := hri.le
    have heg : m.ch.epoch ≤ m1.ch.epoch := by
      rcases hri.ch with e | e
      · rw [e]; omega
      · omega
    refine Br.dec (fun hh => absurd hh (by omega)) (fun _ => ⟨_, st.cell 0 rfl rfl, _, st.cell 4 rfl rfl, ?_⟩)
    rcases hri.ch with e | ⟨e1, e2⟩
    · have hsm : decide (m.ch = m1.ch) = true := decide_eq_true e.symm
      have hee : (m1.ch.epoch == m.ch.epoch) = true := by rw [beq_iff_eq, e]
      rw [hsm, hee]
      refine Br.nay rfl ⟨_, st.cell 0 rfl rfl, _, st.cell 4 rfl rfl, LetI.id (by omega) (by omega) (Br.dec (fun hh => absurd hh (by rw [e]; omega)) (fun _ => Br.nay rfl (Br.eqi (fun hh => absurd (her hh) (by rw [e]; omega)) (fun _ => ?_))))⟩
      refine ⟨fun q v w' => ∃ (t : Nat) (B : Bool), v = [.bool B, .int .i64 (t : Int)] ∧ q = m1.ch.mem.length - t ∧ t ≤ m1.ch.mem.length ∧ B = ((m1.ch.mem.take t).any fun y => m1.wh y.1) ∧ St No w0 w' [.blk bi 32 [.int .i64 m1.ch.epoch, .slice p6 m1.ch.mem.length k6, .int .i64 m1.ch.drain], mR m1.ch.mem p6 k6, mB g f pz f.quanta.length kz m1 p3 k3, mR m1.ch.mem p3 k3, .blk bw 32 [.int .i64 m.ch.epoch, .slice p4 m.ch.mem.length k4, .int .i64 m.ch.drain], mR m.ch.mem p4 k4, .blk ba 55 (actL l[j]), .blk bc 24 (cfL f pz f.quanta.length kz)], ⟨_, 0, false, rfl, rfl, by omega, rfl, st⟩, ?_⟩
      clear st
      rintro Bo _ _ w ⟨t, _, hv, rfl, ht, hBo, st⟩
      obtain ⟨rfl, rfl⟩ : _ ∧ _ := by simpa using hv
      clear hv
      refine ⟨_, _, _, st.cell 0 rfl rfl, Br.dec (fun h8 => ?_) (fun h8 => ?_)⟩
      · have hil : t < m1.ch.mem.length := by omega
        have hB' : ((m1.ch.mem.take (t + 1)).any fun y => m1.wh y.1) = (Bo || m1.wh m1.ch.mem[t].1) := by
          rw [List.take_succ_eq_append_getElem hil, List.any_append, ← hBo]
          simp
        obtain ⟨a2, ha2, hr2⟩ := (ElAt.of_owns memE_len (st.hold 1 _ rfl) rfl : MemAt w p6 m1.ch.mem) t hil
        have hhas : m1.has m1.ch.mem[t].1 = true := (Mst.has_mem hok1.ok _).2 (List.mem_map.2 ⟨_, List.getElem_mem hil, rfl⟩)
        refine Br.bool (fun h9 => ?_) (fun h9 => ?_)
        · refine LetI.id (by omega) (by omega) ⟨_, by omega, t + 1, true, by simp, rfl, by omega, ?_, st⟩
          rw [hB', h9, Bool.true_or]
        · refine ⟨_, _, _, st.cell 0 rfl rfl, ?_⟩
          refine NilOk.intro ha2 ⟨⟨by omega, by omega⟩, _, by simpa [addr_zero] using Row.get hr2 (j := 0) rfl, ?_⟩
          refine Pw.go (mwhole_pw (st.hold 2 _ rfl) (ElAt.of_owns memE_len (st.hold 3 _ rfl) rfl) hok1 _) st ?_; clear st; intro w st
          refine ⟨_, rfl, LetI.id (by omega) (by omega) ⟨_, by omega, t + 1, (m1.has m1.ch.mem[t].1 && m1.wh m1.ch.mem[t].1), by simp, rfl, by omega, ?_, st⟩⟩
          rw [hB', h9, hhas, Bool.false_or, Bool.true_and]
      · have hBt : Bo = true := by
          rw [hBo, List.take_of_length_le (by omega)]
          exact (whole_any m1).2 hok1.full
        rw [hBt]
        refine Br.nay rfl ?_
        exact LetI.id (by omega) (by omega) ⟨_, by omega, j + 1, m1, p3, k3, now, by simp, rfl, by omega, hnow1, by omega, hok1, hri.nodes.trans hns, by have := hri.le; omega, st.pick [2, 3, 7] rfl (by decide)⟩
    · have hsm : decide (m.ch = m1.ch) = false := decide_eq_false (fun hh => by rw [hh] at e1; omega)
      have hee : (m1.ch.epoch == m.ch.epoch) = false := beq_eq_false_iff_ne.2 (by omega)
      have hsn := hsn (by omega)
      rw [hsm, hee]
      refine Br.nay rfl ⟨_, st.cell 0 rfl rfl, _, st.cell 4 rfl rfl, LetI.id (by omega) (by omega) (Br.dec (fun hh => ?_) (fun _ => ?_))⟩
      · refine ⟨_, st.cell 0 rfl rfl, _, st.cell 4 rfl rfl, _, _, _, st.cell 4 rfl rfl, LetI.id (by omega) (by omega) ⟨_, _, _, st.cell 0 rfl rfl, LetI.id (by omega) (by omega) (Br.nei (fun hh2 => absurd hh2 (by omega)) (fun _ => Br.sure rfl ⟨_, st.cell 7 rfl rfl, Br.nei (fun hh2 => absurd hsn hh2) (fun _ => Br.eqi (fun _ => Br.nay rfl ?_) (fun _ => ?_))⟩))⟩⟩
        · refine ⟨fun q v w' => ∃ (t : Nat) (B : Bool), v = [.bool B, .int .i64 (t : Int)] ∧ q = m1.ch.mem.length - t ∧ t ≤ m1.ch.mem.length ∧ B = ((m1.ch.mem.take t).any fun y => m1.wh y.1) ∧ St No w0 w' [.blk bi 32 [.int .i64 m1.ch.epoch, .slice p6 m1.ch.mem.length k6, .int .i64 m1.ch.drain], mR m1.ch.mem p6 k6, mB g f pz f.quanta.length kz m1 p3 k3, mR m1.ch.mem p3 k3, .blk bw 32 [.int .i64 m.ch.epoch, .slice p4 m.ch.mem.length k4, .int .i64 m.ch.drain], mR m.ch.mem p4 k4, .blk ba 55 (actL l[j]), .blk bc 24 (cfL f pz f.quanta.length kz)], ⟨_, 0, false, rfl, rfl, by omega, rfl, st⟩, ?_⟩
          clear st
          rintro Bo _ _ w ⟨t, _, hv, rfl, ht, hBo, st⟩
          obtain ⟨rfl, rfl⟩ : _ ∧ _ := by simpa using hv
          clear hv
          refine ⟨_, _, _, st.cell 0 rfl rfl, Br.dec (fun h8 => ?_) (fun h8 => ?_)⟩
          · have hil : t < m1.ch.mem.length := by omega
            have hB' : ((m1.ch.mem.take (t + 1)).any fun y => m1.wh y.1) = (Bo || m1.wh m1.ch.mem[t].1) := by
              rw [List.take_succ_eq_append_getElem hil, List.any_append, ← hBo]
              simp
            obtain ⟨a2, ha2, hr2⟩ := (ElAt.of_owns memE_len (st.hold 1 _ rfl) rfl : MemAt w p6 m1.ch.mem) t hil
            have hhas : m1.has m1.ch.mem[t].1 = true := (Mst.has_mem hok1.ok _).2 (List.mem_map.2 ⟨_, List.getElem_mem hil, rfl⟩)
            refine Br.bool (fun h9 => ?_) (fun h9 => ?_)
            · refine LetI.id (by omega) (by omega) ⟨_, by omega, t + 1, true, by simp, rfl, by omega, ?_, st⟩
              rw [hB', h9, Bool.true_or]
            · refine ⟨_, _, _, st.cell 0 rfl rfl, ?_⟩
              refine NilOk.intro ha2 ⟨⟨by omega, by omega⟩, _, by simpa [addr_zero] using Row.get hr2 (j := 0) rfl, ?_⟩
              refine Pw.go (mwhole_pw (st.hold 2 _ rfl) (ElAt.of_owns memE_len (st.hold 3 _ rfl) rfl) hok1 _) st ?_; clear st; intro w st
              refine ⟨_, rfl, LetI.id (by omega) (by omega) ⟨_, by omega, t + 1, (m1.has m1.ch.mem[t].1 && m1.wh m1.ch.mem[t].1), by simp, rfl, by omega, ?_, st⟩⟩
              rw [hB', h9, hhas, Bool.false_or, Bool.true_and]
          · have hBt : Bo = true := by
              rw [hBo, List.take_of_length_le (by omega)]
              exact (whole_any m1).2 hok1.full
            rw [hBt]
            refine Br.nay rfl ?_
            exact LetI.id (by omega) (by omega) ⟨_, by omega, j + 1, m1, p3, k3, now, by simp, rfl, by omega, hnow1, by omega, hok1, hri.nodes.trans hns, by have := hri.le; omega, st.pick [2, 3, 7] rfl (by decide)⟩
        · refine ⟨fun q v w' => ∃ (t : Nat) (B : Bool), v = [.bool B, .int .i64 (t : Int)] ∧ q = m1.ch.mem.length - t ∧ t ≤ m1.ch.mem.length ∧ B = ((m1.ch.mem.take t).any fun y => m1.wh y.1) ∧ St No w0 w' [.blk bi 32 [.int .i64 m1.ch.epoch, .slice p6 m1.ch.mem.length k6, .int .i64 m1.ch.drain], mR m1.ch.mem p6 k6, mB g f pz f.quanta.length kz m1 p3 k3, mR m1.ch.mem p3 k3, .blk bw 32 [.int .i64 m.ch.epoch, .slice p4 m.ch.mem.length k4, .int .i64 m.ch.drain], mR m.ch.mem p4 k4, .blk ba 55 (actL l[j]), .blk bc 24 (cfL f pz f.quanta.length kz)], ⟨_, 0, false, rfl, rfl, by omega, rfl, st⟩, ?_⟩
          clear st
          rintro Bo _ _ w ⟨t, _, hv, rfl, ht, hBo, st⟩
          obtain ⟨rfl, rfl⟩ : _ ∧ _ := by simpa using hv
          clear hv
          refine ⟨_, _, _, st.cell 0 rfl rfl, Br.dec (fun h8 => ?_) (fun h8 => ?_)⟩
          · have hil : t < m1.ch.mem.length := by omega
            have hB' : ((m1.ch.mem.take (t + 1)).any fun y => m1.wh y.1) = (Bo || m1.wh m1.ch.mem[t].1) := by
              rw [List.take_succ_eq_append_getElem hil, List.any_append, ← hBo]
              simp
            obtain ⟨a2, ha2, hr2⟩ := (ElAt.of_owns memE_len (st.hold 1 _ rfl) rfl : MemAt w p6 m1.ch.mem) t hil
            have hhas : m1.has m1.ch.mem[t].1 = true := (Mst.has_mem hok1.ok _).2 (List.mem_map.2 ⟨_, List.getElem_mem hil, rfl⟩)
            refine Br.bool (fun h9 => ?_) (fun h9 => ?_)
            · refine LetI.id (by omega) (by omega) ⟨_, by omega, t + 1, true, by simp, rfl, by omega, ?_, st⟩
              rw [hB', h9, Bool.true_or]
            · refine ⟨_, _, _, st.cell 0 rfl rfl, ?_⟩
              refine NilOk.intro ha2 ⟨⟨by omega, by omega⟩, _, by simpa [addr_zero] using Row.get hr2 (j := 0) rfl, ?_⟩
              refine Pw.go (mwhole_pw (st.hold 2 _ rfl) (ElAt.of_owns memE_len (st.hold 3 _ rfl) rfl) hok1 _) st ?_; clear st; intro w st
              refine ⟨_, rfl, LetI.id (by omega) (by omega) ⟨_, by omega, t + 1, (m1.has m1.ch.mem[t].1 && m1.wh m1.ch.mem[t].1), by simp, rfl, by omega, ?_, st⟩⟩
              rw [hB', h9, hhas, Bool.false_or, Bool.true_and]
          · have hBt : Bo = true := by
              rw [hBo, List.take_of_length_le (by omega)]
              exact (whole_any m1).2 hok1.full
            rw [hBt]
            refine Br.nay rfl ?_
            exact LetI.id (by omega) (by omega) ⟨_, by omega, j + 1, m1, p3, k3, now, by simp, rfl, by omega, hnow1, by omega, hok1, hri.nodes.trans hns, by have := hri.le; omega, st.pick [2, 3, 7] rfl (by decide)⟩
      · refine Br.sure rfl ⟨_, st.cell 7 rfl rfl, Br.nei (fun hh2 => absurd hsn hh2) (fun _ => Br.eqi (fun _ => Br.nay rfl ?_) (fun _ => ?_))⟩
        · refine ⟨fun q v w' => ∃ (t : Nat) (B : Bool), v = [.bool B, .int .i64 (t : Int)] ∧ q = m1.ch.mem.length - t ∧ t ≤ m1.ch.mem.length ∧ B = ((m1.ch.mem.take t).any fun y => m1.wh y.1) ∧ St No w0 w' [.blk bi 32 [.int .i64 m1.ch.epoch, .slice p6 m1.ch.mem.length k6, .int .i64 m1.ch.drain], mR m1.ch.mem p6 k6, mB g f pz f.quanta.length kz m1 p3 k3, mR m1.ch.mem p3 k3, .blk bw 32 [.int .i64 m.ch.epoch, .slice p4 m.ch.mem.length k4, .int .i64 m.ch.drain], mR m.ch.mem p4 k4, .blk ba 55 (actL l[j]), .blk bc 24 (cfL f pz f.quanta.length kz)], ⟨_, 0, false, rfl, rfl, by omega, rfl, st⟩, ?_⟩
          clear st
          rintro Bo _ _ w ⟨t, _, hv, rfl, ht, hBo, st⟩
          obtain ⟨rfl, rfl⟩ : _ ∧ _ := by simpa using hv
          clear hv
          refine ⟨_, _, _, st.cell 0 rfl rfl, Br.dec (fun h8 => ?_) (fun h8 => ?_)⟩
          · have hil : t < m1.ch.mem.length := by omega
            have hB' : ((m1.ch.mem.take (t + 1)).any fun y => m1.wh y.1) = (Bo || m1.wh m1.ch.mem[t].1) := by
              rw [List.take_succ_eq_append_getElem hil, List.any_append, ← hBo]
              simp
            obtain ⟨a2, ha2, hr2⟩ := (ElAt.of_owns memE_len (st.hold 1 _ rfl) rfl : MemAt w p6 m1.ch.mem) t hil
            have hhas : m1.has m1.ch.mem[t].1 = true := (Mst.has_mem hok1.ok _).2 (List.mem_map.2 ⟨_, List.getElem_mem hil, rfl⟩)
            refine Br.bool (fun h9 => ?_) (fun h9 => ?_)
            · refine LetI.id (by omega) (by omega) ⟨_, by omega, t + 1, true, by simp, rfl, by omega, ?_, st⟩
              rw [hB', h9, Bool.true_or]
            · refine ⟨_, _, _, st.cell 0 rfl rfl, ?_⟩
              refine NilOk.intro ha2 ⟨⟨by omega, by omega⟩, _, by simpa [addr_zero] using Row.get hr2 (j := 0) rfl, ?_⟩
              refine Pw.go (mwhole_pw (st.hold 2 _ rfl) (ElAt.of_owns memE_len (st.hold 3 _ rfl) rfl) hok1 _) st ?_; clear st; intro w st
              refine ⟨_, rfl, LetI.id (by omega) (by omega) ⟨_, by omega, t + 1, (m1.has m1.ch.mem[t].1 && m1.wh m1.ch.mem[t].1), by simp, rfl, by omega, ?_, st⟩⟩
              rw [hB', h9, hhas, Bool.false_or, Bool.true_and]
          · have hBt : Bo = true := by
              rw [hBo, List.take_of_length_le (by omega)]
              exact (whole_any m1).2 hok1.full
            rw [hBt]
            refine Br.nay rfl ?_
            exact LetI.id (by omega) (by omega) ⟨_, by omega, j + 1, m1, p3, k3, now, by simp, rfl, by omega, hnow1, by omega, hok1, hri.nodes.trans hns, by have := hri.le; omega, st.pick [2, 3, 7] rfl (by decide)⟩
        · refine ⟨fun q v w' => ∃ (t : Nat) (B : Bool), v = [.bool B, .int .i64 (t : Int)] ∧ q = m1.ch.mem.length - t ∧ t ≤ m1.ch.mem.length ∧ B = ((m1.ch.mem.take t).any fun y => m1.wh y.1) ∧ St No w0 w' [.blk bi 32 [.int .i64 m1.ch.epoch, .slice p6 m1.ch.mem.length k6, .int .i64 m1.ch.drain], mR m1.ch.mem p6 k6, mB g f pz f.quanta.length kz m1 p3 k3, mR m1.ch.mem p3 k3, .blk bw 32 [.int .i64 m.ch.epoch, .slice p4 m.ch.mem.length k4, .int .i64 m.ch.drain], mR m.ch.mem p4 k4, .blk ba 55 (actL l[j]), .blk bc 24 (cfL f pz f.quanta.length kz)], ⟨_, 0, false, rfl, rfl, by omega, rfl, st⟩, ?_⟩
          clear st
          rintro Bo _ _ w ⟨t, _, hv, rfl, ht, hBo, st⟩
          obtain ⟨rfl, rfl⟩ : _ ∧ _ := by simpa using hv
          clear hv
          refine ⟨_, _, _, st.cell 0 rfl rfl, Br.dec (fun h8 => ?_) (fun h8 => ?_)⟩
          · have hil : t < m1.ch.mem.length := by omega
            have hB' : ((m1.ch.mem.take (t + 1)).any fun y => m1.wh y.1) = (Bo || m1.wh m1.ch.mem[t].1) := by
              rw [List.take_succ_eq_append_getElem hil, List.any_append, ← hBo]
              simp
            obtain ⟨a2, ha2, hr2⟩ := (ElAt.of_owns memE_len (st.hold 1 _ rfl) rfl : MemAt w p6 m1.ch.mem) t hil
            have hhas : m1.has m1.ch.mem[t].1 = true := (Mst.has_mem hok1.ok _).2 (List.mem_map.2 ⟨_, List.getElem_mem hil, rfl⟩)
            refine Br.bool (fun h9 => ?_) (fun h9 => ?_)
            · refine LetI.id (by omega) (by omega) ⟨_, by omega, t + 1, true, by simp, rfl, by omega, ?_, st⟩
              rw [hB', h9, Bool.true_or]
            · refine ⟨_, _, _, st.cell 0 rfl rfl, ?_⟩
              refine NilOk.intro ha2 ⟨⟨by omega, by omega⟩, _, by simpa [addr_zero] using Row.get hr2 (j := 0) rfl, ?_⟩
              refine Pw.go (mwhole_pw (st.hold 2 _ rfl) (ElAt.of_owns memE_len (st.hold 3 _ rfl) rfl) hok1 _) st ?_; clear st; intro w st
              refine ⟨_, rfl, LetI.id (by omega) (by omega) ⟨_, by omega, t + 1, (m1.has m1.ch.mem[t].1 && m1.wh m1.ch.mem[t].1), by simp, rfl, by omega, ?_, st⟩⟩
              rw [hB', h9, hhas, Bool.false_or, Bool.true_and]
          · have hBt : Bo = true := by
              rw [hBo, List.take_of_length_le (by omega)]
              exact (whole_any m1).2 hok1.full
            rw [hBt]
            refine Br.nay rfl ?_
            exact LetI.id (by omega) (by omega) ⟨_, by omega, j + 1, m1, p3, k3, now, by simp, rfl, by omega, hnow1, by omega, hok1, hri.nodes.trans hns, by have := hri.le; omega, st.pick [2, 3, 7] rfl (by decide)⟩
  · refine Pu.go mchained_pu st ?_; clear st; intro w st
    exact ⟨_, rfl, rfl, st.kp⟩
end Go.Proofs.Ytljipmhkpnigkaa
