/- Package client: the chapter's client. -/
import Derived.Test.YtljipmhkpnigkaaKF
import Derived.Test.YtljipmhkpnigkaaU3
import Derived.Test.YtljipmhkpnigkaaUR
namespace Go.Proofs.Ytljipmhkpnigkaa
open Go.Vc Go.Codec

section
variable {S : Nat → Prop} {w0 w : World} {L2 : List Atom} {b : Nat} {c : Cfg} {cp : Option Addr} {cn ck : Nat} {x : Clt} {p : Option Addr} {k bt bs : Nat}
theorem ktake_go (st : St S w0 w (clA b c cp cn ck x p k bt bs ++ L2)) (hx : okK x) {f : Frm} (hl : f.ch.mem.length ≤ 1000) (now : Int) {pf : Option Addr} {kf : Nat} (j : Nat) (hj : L2[j]? = some (memR f.ch.mem pf kf)) {R : Ending → World → Prop}
    (hR : ∀ q n m X p2 k2 w', Snt (Clt.takeC c x f now).2 (.slice q n m) X → St S w0 w' ((X ++ clA b c cp cn ck (Clt.takeC c x f now).1 p2 k2 bt bs) ++ L2) → R (.returned (.slice q n m)) w') :
    Ca Try.prog 40 #[.pointer (some ⟨b, 0, none⟩), frmV f pf kf, .int .i64 now] w R := by
  have hrow : (clA b c cp cn ck x p k bt bs ++ L2)[4 + j]? = some (memR f.ch.mem pf kf) := by
    rw [List.getElem?_append_right (by show 4 ≤ 4 + j; omega)]
    show L2[4 + j - 4]? = _
    rw [show 4 + j - 4 = j by omega]; exact hj
  refine Ca.mono (ktake_ca hx hl now (ElAt.of_owns memE_len (st.hold (4 + j) _ hrow) rfl) ?_ st.enter) ?_
  · intro a ha hft
    obtain ⟨i, A, hA, hg⟩ := feet_mem.1 hft
    have hi : i < 4 := by
      rcases Nat.lt_or_ge i 4 with h | h
      · exact h
      · rw [List.getElem?_eq_none (by show 4 ≤ i; omega)] at hA; cases hA
    refine st.disj i (4 + j) A _ (by omega) (app_left hA) hrow a.block hg ?_
    subst ha
    rfl
  · rintro e w' ⟨L', ⟨q, n, m, X, p2, k2, rfl, hX, rfl⟩, st'⟩
    exact hR q n m X p2 k2 w' hX (st.leave st')
theorem ktake_go0 (st : St S w0 w (clA b c cp cn ck x p k bt bs ++ L2)) (hx : okK x) {f : Frm} (hf : f.ch = .none) (now : Int) {R : Ending → World → Prop}
    (hR : ∀ q n m X p2 k2 w', Snt (Clt.takeC c x f now).2 (.slice q n m) X → St S w0 w' ((X ++ clA b c cp cn ck (Clt.takeC c x f now).1 p2 k2 bt bs) ++ L2) → R (.returned (.slice q n m)) w') :
    Ca Try.prog 40 #[.pointer (some ⟨b, 0, none⟩), frmV f none 0, .int .i64 now] w R := by
  refine Ca.mono (ktake_ca hx (by rw [hf]; exact Nat.zero_le _) now (by rw [hf]; exact ElAt.nil _ _) (fun a ha => by cases ha) st.enter) ?_
  rintro e w' ⟨L', ⟨q, n, m, X, p2, k2, rfl, hX, rfl⟩, st'⟩
  exact hR q n m X p2 k2 w' hX (st.leave st')
end
theorem snt_none {v : Value} {X : List Atom} (h : Snt none v X) : v = .slice none 0 0 ∧ X = [] := by
  rcases h with ⟨_, h1, h2⟩ | ⟨_, _, _, h, _⟩
  · exact ⟨h1, h2⟩
  · cases h
theorem snt_some {to : Int} {f : Frm} {v : Value} {X : List Atom} (h : Snt (some (to, f)) v X) : ∃ g, v = .slice (some ⟨g, 0, none⟩) 1 1 ∧ X = [sndA g to f] := by
  rcases h with ⟨h, _⟩ | ⟨to', f', g, h, h1, h2⟩
  · cases h
  · cases h; exact ⟨g, h1, h2⟩
abbrev cfgK : Cfg := ⟨1, 1, 1, [96], 1, 1, 1, 4, 4, 4, 1, 1⟩
theorem fit_client : fitS ⟨0, 0, 0, [], 0, 0, 0, 0, 0, 0, 1, 0⟩ = cfgK := by decide
theorem cfgK_ok : okS cfgK := by rw [← fit_client]; exact fitS_ok _
abbrev opK : Opn := ⟨2, [107], [118], 0⟩
abbrev chK : Chn := ⟨1, [(0, 1)], -1⟩
theorem firstK : firstC cfgK = chK := by decide
abbrev frK : Frm := ⟨8, fun _ => 0, .none, .none, .none, chK⟩
abbrev frR (t : Int) : Frm := ⟨3, fun i => if i = 2 then 1 else if i = 3 then t else if i = 6 then 1 else 0, .none, .none, .none, .none⟩
def y0 : Clt := newC cfgK 0
def y1 : Clt := (Clt.callC cfgK y0 opK 0 100 0).1
def y2 : Clt := (Clt.takeC cfgK y1 frK 0).1
def y3 : Clt := (Clt.takeC cfgK y2 (frR 1) 3).1
def y4 : Clt := (Clt.tickC cfgK y3 4).1
def y5 : Clt := (Clt.takeC cfgK y4 frK 4).1
def y6 : Clt := (Clt.takeC cfgK y5 (frR 2) 4).1
theorem z1 : (Clt.callC cfgK y0 opK 0 100 0).2.1 = 0 := by kernel_rfl
theorem z1' : (Clt.callC cfgK y0 opK 0 100 0).2.2 = some (16, .zero 7) := by kernel_rfl
theorem z2 : (Clt.takeC cfgK y1 frK 0).2 = some (0, callT y1.call 1) := by kernel_rfl
theorem z3 : Clt.tickC cfgK y2 3 = (y2, none) := by kernel_rfl
theorem z4 : (Clt.takeC cfgK y2 (frR 1) 3).2 = none := by kernel_rfl
theorem z5 : Clt.tickC cfgK y3 3 = (y3, none) := by kernel_rfl
theorem z6 : (Clt.tickC cfgK y3 4).2 = some (16, .zero 7) := by kernel_rfl
theorem z7 : (Clt.takeC cfgK y4 frK 4).2 = some (0, callT y4.call 1) := by kernel_rfl
theorem z8 : (Clt.takeC cfgK y5 (frR 2) 4).2 = some (16, .zero 7) := by kernel_rfl
theorem z9 : y6.slot = some ⟨2, 1, 0, [], 0, 0⟩ := by kernel_rfl
theorem z10 : y6.doing = 0 := by kernel_rfl
theorem z11 : (callT y1.call 1).kind = 1 ∧ (callT y1.call 1).nums 3 = 1 := ⟨by kernel_rfl, by kernel_rfl⟩
theorem z12 : (callT y4.call 1).kind = 1 ∧ (callT y4.call 1).nums 3 = 2 := ⟨by kernel_rfl, by kernel_rfl⟩
theorem okK_of {x : Clt} (h : (decide (x.tok.ok) && (decide (0 ≤ x.call.nums 3) && (decide (x.call.nums 3 ≤ 1099511627776) && (decide (0 ≤ x.call.nums 2) && (decide (x.call.nums 2 ≤ 1099511627776) && (decide (0 ≤ x.tick) && (decide (x.tick ≤ 2199023255552) && decide (x.ch.mem.length ≤ 1000)))))))) = true) : okK x := by
  simp only [Bool.and_eq_true, decide_eq_true_eq] at h
  obtain ⟨h1, h2, h3, h4, h5, h6, h7, h8⟩ := h
  exact ⟨h1, h2, h3, h4, h5, h6, h7, h8⟩
theorem oky1 : okK y1 := okK_of (by kernel_rfl)
theorem oky2 : okK y2 := okK_of (by kernel_rfl)
theorem oky3 : okK y3 := okK_of (by kernel_rfl)
theorem oky4 : okK y4 := okK_of (by kernel_rfl)
theorem oky5 : okK y5 := okK_of (by kernel_rfl)
set_option maxRecDepth 100000 in
set_option maxHeartbeats 8000000 in
theorem kcalled_pu : Pu Try.prog 37 #[] (.bool true) := by
  intro w0
  have st : St No w0 w0 [] := St.start w0
  refine kcalled_ok _ _ ?_
  unfold kcalled
  refine (rfit_ca (c := ⟨0, 0, 0, [], 0, 0, 0, 0, 0, 0, 1, 0⟩) (n := 0) (k := 0) (p := none) (ElAt.nil _ _) rfl (by decide)).mono ?_
  rintro _ w ⟨_, rfl, pz, kz, rfl, ho, hk1⟩
  replace st := st.pushRow0 hk1 ho (Nat.le_refl _)
  clear ho hk1
  rw [fit_client] at st ⊢
  refine ⟨_, _, _, _, _, _, _, _, _, _, _, _, _, _, rfl, ?_⟩
  refine St.alloc st ?_; clear st; intro bc w st
  refine ⟨st.wrRow 0 rfl rfl rfl, ?_⟩
  refine St.storeRow st 0 rfl ?_; clear st; intro w st
  replace st : St No w0 w [.blk bc 24 (cfL cfgK pz 1 kz), .row 0 3 1 (.slice pz 1 kz) 1 (cellsOf intE [96])] := st
  refine ⟨_, _, _, _, _, _, _, _, _, _, _, _, _, _, st.rowAt 0 rfl rfl, ?_⟩
  refine (rsfirst_ca (c := cfgK) (ElAt.of_owns intE_len (st.hold 1 _ rfl) rfl) rfl (by decide)).mono ?_
  rintro _ w ⟨_, rfl, pf, kf, rfl, ho, hk1⟩
  replace st := st.pushRow0 hk1 ho (Nat.le_refl _)
  clear ho hk1
  rw [firstK] at st ⊢
  refine ⟨_, _, _, _, _, _, rfl, ?_⟩
  refine St.alloc st ?_; clear st; intro bh w st
  refine ⟨st.wrRow 0 rfl rfl rfl, ?_⟩
  refine St.storeRow st 0 rfl ?_; clear st; intro w st
  replace st : St No w0 w [.blk bh 32 [.int .i64 1, .slice pf 1 kf, .int .i64 (-1)], memR chK.mem pf kf, .blk bc 24 (cfL cfgK pz 1 kz), .row 0 3 1 (.slice pz 1 kz) 1 (cellsOf intE [96])] := st
  refine ⟨_, _, _, _, _, _, _, _, _, _, _, _, _, _, st.rowAt 2 rfl rfl, ?_⟩
  have hcap := owns_cap (st.hold 3 _ rfl)
  refine (knew_ca (c := cfgK) (id := 0) (ElAt.of_owns intE_len (st.hold 3 _ rfl) rfl) rfl hcap.1 hcap.2 cfgK_ok (by decide)).mono ?_
  rintro _ w1 ⟨b, bt, bs, rfl, st1⟩
  replace st := st.made st1
  clear st1
  replace st : St No w0 w1 (clA b cfgK pz 1 kz y0 none 0 bt bs ++ [.blk bh 32 [.int .i64 1, .slice pf 1 kf, .int .i64 (-1)], memR chK.mem pf kf]) := st.pick [0, 1, 2, 3, 4, 5] rfl (by decide)
  refine ⟨_, _, rfl, Br.nay rfl ?_⟩
  refine Tk.go (kcall_tk (x := y0) (newC_ok cfgK_ok 0) rfl opK 0 100 0) st ?_
  clear st
  rw [z1, z1']
  rintro _ _ w ⟨q, n, m, X, bs1, rfl, hX, rfl⟩ st
  obtain ⟨g1, hv, rfl⟩ := snt_some hX
  cases hv
  refine ⟨_, _, _, _, rfl, ?_⟩
  replace st : St No w0 w (clA b cfgK pz 1 kz y1 none 0 bt bs1 ++ [memR chK.mem pf kf, .blk bh 32 [.int .i64 1, .slice pf 1 kf, .int .i64 (-1)], sndA g1 16 (.zero 7)]) := st.pick [1, 2, 3, 4, 6, 5, 0] rfl (by decide)
  refine ⟨_, _, _, _, _, st.rowAt 5 rfl rfl, ?_⟩
  refine ktake_go st oky1 (f := frK) (by decide) 0 0 rfl ?_
  clear st
  intro q n m X p2 k2 w hX st
  rw [z2] at hX
  obtain ⟨g2, hv, rfl⟩ := snt_some hX
  cases hv
  refine ⟨_, _, _, rfl, Br.nay rfl ?_⟩
  replace st : St No w0 w (clA b cfgK pz 1 kz y2 p2 k2 bt bs1 ++ [memR chK.mem pf kf, .blk bh 32 [.int .i64 1, .slice pf 1 kf, .int .i64 (-1)], sndA g1 16 (.zero 7), sndA g2 0 (callT y1.call 1)]) := st.pick [1, 2, 3, 4, 5, 6, 7, 0] rfl (by decide)
  refine Pw.go (kto_pw (f := .zero 7) (st.hold 6 _ rfl)) st ?_; clear st; intro w st
  refine ⟨_, rfl, Br.nay rfl ?_⟩
  have ht := kto_pw (f := callT y1.call 1) (st.hold 7 _ rfl)
  rw [z11.1] at ht
  refine Pw.go ht st ?_; clear st ht; intro w st
  refine ⟨_, rfl, Br.nay rfl (NilOk.intro rfl ⟨⟨by omega, by omega⟩, _, st.cell 7 (i := 5) rfl rfl, ?_⟩)⟩
  rw [z11.2]
  refine Br.nay rfl ?_
  refine Tk.go (ktick_tk oky2 (by decide) 3) st ?_
  clear st
  rw [z3]
  rintro _ _ w ⟨q, n, m, X, rfl, hX, rfl⟩ st
  obtain ⟨hv, rfl⟩ := snt_none hX
  cases hv
  refine ⟨_, _, _, rfl, Br.nay rfl ?_⟩
  replace st : St No w0 w (clA b cfgK pz 1 kz y2 p2 k2 bt bs1 ++ [memR chK.mem pf kf, .blk bh 32 [.int .i64 1, .slice pf 1 kf, .int .i64 (-1)], sndA g1 16 (.zero 7), sndA g2 0 (callT y1.call 1)]) := st
  refine ktake_go0 st oky2 (f := frR 1) rfl 3 ?_
  clear st
  intro q n m X p3 k3 w hX st
  rw [z4] at hX
  obtain ⟨hv, rfl⟩ := snt_none hX
  cases hv
  refine ⟨_, _, _, rfl, Br.nay rfl ?_⟩
  replace st : St No w0 w (clA b cfgK pz 1 kz y3 p3 k3 bt bs1 ++ [memR chK.mem pf kf, .blk bh 32 [.int .i64 1, .slice pf 1 kf, .int .i64 (-1)], sndA g1 16 (.zero 7), sndA g2 0 (callT y1.call 1)]) := st
  refine Tk.go (ktick_tk oky3 (by decide) 3) st ?_
  clear st
  rw [z5]
  rintro _ _ w ⟨q, n, m, X, rfl, hX, rfl⟩ st
  obtain ⟨hv, rfl⟩ := snt_none hX
  cases hv
  refine ⟨_, _, _, rfl, Br.nay rfl ?_⟩
  replace st : St No w0 w (clA b cfgK pz 1 kz y3 p3 k3 bt bs1 ++ [memR chK.mem pf kf, .blk bh 32 [.int .i64 1, .slice pf 1 kf, .int .i64 (-1)], sndA g1 16 (.zero 7), sndA g2 0 (callT y1.call 1)]) := st
  refine Tk.go (ktick_tk oky3 (by decide) 4) st ?_
  clear st
  rw [z6]
  rintro _ _ w ⟨q, n, m, X, rfl, hX, rfl⟩ st
  obtain ⟨g3, hv, rfl⟩ := snt_some hX
  cases hv
  replace st : St No w0 w (clA b cfgK pz 1 kz y4 p3 k3 bt bs1 ++ [memR chK.mem pf kf, .blk bh 32 [.int .i64 1, .slice pf 1 kf, .int .i64 (-1)], sndA g1 16 (.zero 7), sndA g2 0 (callT y1.call 1), sndA g3 16 (.zero 7)]) := st.pick [1, 2, 3, 4, 5, 6, 7, 8, 0] rfl (by decide)
  refine ⟨_, _, _, rfl, _, _, _, _, _, st.rowAt 5 rfl rfl, ?_⟩
  refine ktake_go st oky4 (f := frK) (by decide) 4 0 rfl ?_
  clear st
  intro q n m X p4 k4 w hX st
  rw [z7] at hX
  obtain ⟨g4, hv, rfl⟩ := snt_some hX
  cases hv
  refine ⟨_, _, _, rfl, ?_⟩
  replace st : St No w0 w (clA b cfgK pz 1 kz y5 p4 k4 bt bs1 ++ [memR chK.mem pf kf, .blk bh 32 [.int .i64 1, .slice pf 1 kf, .int .i64 (-1)], sndA g1 16 (.zero 7), sndA g2 0 (callT y1.call 1), sndA g3 16 (.zero 7), sndA g4 0 (callT y4.call 1)]) := st.pick [1, 2, 3, 4, 5, 6, 7, 8, 9, 0] rfl (by decide)
  refine ktake_go0 st oky5 (f := frR 2) rfl 4 ?_
  clear st
  intro q n m X p5 k5 w hX st
  rw [z8] at hX
  obtain ⟨g5, hv, rfl⟩ := snt_some hX
  cases hv
  refine ⟨_, _, _, rfl, ?_⟩
  replace st : St No w0 w (clA b cfgK pz 1 kz y6 p5 k5 bt bs1 ++ [memR chK.mem pf kf, .blk bh 32 [.int .i64 1, .slice pf 1 kf, .int .i64 (-1)], sndA g1 16 (.zero 7), sndA g2 0 (callT y1.call 1), sndA g3 16 (.zero 7), sndA g4 0 (callT y4.call 1), sndA g5 16 (.zero 7)]) := st.pick [1, 2, 3, 4, 5, 6, 7, 8, 9, 10, 0] rfl (by decide)
  refine Tk.go koutcome_tk st ?_
  clear st
  rw [z9]
  rintro _ _ w ⟨rfl, rfl⟩ st
  refine ⟨_, _, _, _, _, _, _, rfl, ?_⟩
  refine St.alloc st ?_; clear st; intro bo w st
  refine ⟨st.wrRow 0 rfl rfl rfl, ?_⟩
  refine St.storeRow st 0 rfl ?_; clear st; intro w st
  replace st : St No w0 w (.blk bo 80 (outE ⟨2, 1, 0, [], 0, 0⟩) :: (clA b cfgK pz 1 kz y6 p5 k5 bt bs1 ++ [memR chK.mem pf kf, .blk bh 32 [.int .i64 1, .slice pf 1 kf, .int .i64 (-1)], sndA g1 16 (.zero 7), sndA g2 0 (callT y1.call 1), sndA g3 16 (.zero 7), sndA g4 0 (callT y4.call 1), sndA g5 16 (.zero 7)])) := st
  refine Pw.go (kto_pw (f := .zero 7) (st.hold 9 _ rfl)) st ?_; clear st; intro w st
  refine ⟨_, rfl, Br.sure rfl ?_⟩
  have ht := kto_pw (f := callT y4.call 1) (st.hold 10 _ rfl)
  rw [z12.1] at ht
  refine Pw.go ht st ?_; clear st ht; intro w st
  refine ⟨_, rfl, Br.sure rfl (NilOk.intro rfl ⟨⟨by omega, by omega⟩, _, st.cell 10 (i := 5) rfl rfl, ?_⟩)⟩
  rw [z12.2]
  refine Br.sure rfl ?_
  refine Pw.go (kto_pw (f := .zero 7) (st.hold 11 _ rfl)) st ?_; clear st; intro w st
  refine ⟨_, rfl, Br.sure rfl (Br.sure rfl ⟨_, st.cell 0 rfl rfl, Br.sure rfl ⟨_, st.cell 0 rfl rfl, Br.sure rfl ?_⟩⟩)⟩
  refine Pw.go (kbusy_pw (st.hold 1 _ rfl)) st ?_; clear st; intro w st
  rw [z10]
  exact ⟨_, rfl, rfl, st.kp⟩
end Go.Proofs.Ytljipmhkpnigkaa
