/- Package client: acts; the document's New. -/
import Derived.Test.YtljipmhkpnigkaaKG
namespace Go.Proofs.Ytljipmhkpnigkaa
open Go.Vc Go.Codec

structure ActK where
  kd : Int
  a : Int
  b : Int
  op : Opn
  f : Frm
  pf : Option Addr
  kf : Nat
  n0 : Int
  n1 : Int
  n2 : Int
  hk : 0 ≤ kd ∧ kd ≤ 255
  ha : 0 ≤ a ∧ a ≤ 255
  hb : 0 ≤ b ∧ b ≤ 255
abbrev actK (x : ActK) : List Value := [.int .u8 x.kd, .int .u8 x.a, .int .u8 x.b, .int .i64 x.op.kind, .string (mk x.op.key), .string (mk x.op.val), .int .i64 x.op.ver, .int .i64 x.f.kind, .int .i64 (x.f.nums 0), .int .i64 (x.f.nums 1), .int .i64 (x.f.nums 2), .int .i64 (x.f.nums 3), .int .i64 (x.f.nums 4), .int .i64 (x.f.nums 5), .int .i64 x.f.op.kind, .string (mk x.f.op.key), .string (mk x.f.op.val), .int .i64 x.f.op.ver, .int .i64 x.f.res.code, .string (mk x.f.res.val), .int .i64 x.f.res.ver, .int .i64 x.f.res.at_, .int .i64 (x.f.nums 6), .int .i64 x.f.ent.idx, .int .i64 x.f.ent.cl, .int .i64 x.f.ent.sq, .int .i64 x.f.ent.op.kind, .string (mk x.f.ent.op.key), .string (mk x.f.ent.op.val), .int .i64 x.f.ent.op.ver, .int .i64 x.f.ch.epoch, .slice x.pf x.f.ch.mem.length x.kf, .int .i64 x.f.ch.drain, .int .i64 (x.f.nums 7), .int .i64 (x.f.nums 8), .int .i64 (x.f.nums 9), .int .i64 x.n0, .int .i64 x.n1, .int .i64 x.n2]
theorem actK_len (x : ActK) : (actK x).length = 39 := rfl
abbrev ActKAt (w : World) (p : Option Addr) (l : List ActK) : Prop := ElAt actK 39 w p l
def badA (x : ActK) : Bool := decide (x.op.key.length > 200) || (decide (x.op.val.length > 200) || (decide (x.f.op.key.length > 200) || (decide (x.f.op.val.length > 200) || (decide (x.f.res.val.length > 200) || decide (x.f.ch.mem.length > 10)))))
theorem setsL_all {l cs : List Value} (h : l.length = cs.length) : setsL cs 0 l = l := by
  rw [setsL_eq l cs 0 (by omega)]
  simp [h]
set_option maxRecDepth 100000 in
set_option maxHeartbeats 4000000 in
theorem kgreat_pw {w0 : World} {n k : Nat} {p : Option Addr} {l : List ActK} (hA : ActKAt w0 p l) (hn : n = l.length) (hl : l.length ≤ maxLen) (most : Int) :
    ∃ B : Bool, (B = false → (l.length : Int) ≤ most) ∧ Pw Try.prog 36 #[.slice p n k, .int .i64 most] (.bool B) w0 := by
  subst hn
  refine ⟨(l.any badA) || decide ((l.length : Int) > most), fun hB => ?_, ?_⟩
  · have := (Bool.or_eq_false_iff.1 hB).2
    have := of_decide_eq_false this
    omega
  have hm : maxLen = 9223372036854775807 := rfl
  have st : St No w0 w0 [] := St.start w0
  refine kgreat_ok _ _ _ _ _ _ ?_
  unfold kgreat
  refine ⟨fun q v w' => ∃ j : Nat, v = [.bool false, .int .i64 (j : Int)] ∧ q = l.length - j ∧ j ≤ l.length ∧ ((l.drop j).any badA) = (l.any badA) ∧ St No w0 w' [], ⟨_, 0, rfl, rfl, by omega, rfl, st⟩, ?_⟩
  clear st
  rintro _ _ _ w ⟨j, hv, rfl, hj, hb, st⟩
  obtain ⟨rfl, rfl⟩ : _ ∧ _ := by simpa using hv
  clear hv
  refine Br.dec (fun h1 => ?_) (fun h1 => ?_)
  · have hjl : j < l.length := by omega
    obtain ⟨a, ha, hr⟩ := hA j hjl
    replace hr := Row.kp st.kp (not_no _) hr
    rw [List.drop_eq_getElem_cons hjl, List.any_cons] at hb
    refine NilOk.intro ha ⟨⟨by omega, by omega⟩, _, _, _, _, _, _, _, _, _, _, _, _, _, _, _, _, _, _, _, _, _, _, _, _, _, _, _, _, _, _, _, _, _, _, _, _, _, _, _, _, _, hr, ?_⟩
    have e1 : (mk l[j].op.key).size = l[j].op.key.length := rfl
    have e2 : (mk l[j].op.val).size = l[j].op.val.length := rfl
    have e3 : (mk l[j].f.op.key).size = l[j].f.op.key.length := rfl
    have e4 : (mk l[j].f.op.val).size = l[j].f.op.val.length := rfl
    have e5 : (mk l[j].f.res.val).size = l[j].f.res.val.length := rfl
    refine St.alloc st ?_; clear st; intro bx w st
    refine ⟨st.wrRow 0 rfl rfl rfl, ?_⟩
    refine St.storeRow st 0 rfl ?_; clear st; intro w st
    replace st : St No w0 w [.blk bx 74 (actK l[j])] := by
      rw [setsL_all] at st
      · exact st
      · rfl
    refine ⟨_, st.cell 0 rfl rfl, Br.dec (fun h2 => ?_) (fun h2 => ?_)⟩
    · have h3 : badA l[j] = true := by unfold badA; simp; omega
      refine ⟨?_, st.kp⟩
      rw [← hb, h3]; simp
    refine ⟨_, st.cell 0 rfl rfl, Br.dec (fun h2 => ?_) (fun h2 => ?_)⟩
    · have h3 : badA l[j] = true := by unfold badA; simp; omega
      refine ⟨?_, st.kp⟩
      rw [← hb, h3]; simp
    refine ⟨_, st.cell 0 rfl rfl, Br.dec (fun h2 => ?_) (fun h2 => ?_)⟩
    · have h3 : badA l[j] = true := by unfold badA; simp; omega
      refine ⟨?_, st.kp⟩
      rw [← hb, h3]; simp
    refine ⟨_, st.cell 0 rfl rfl, Br.dec (fun h2 => ?_) (fun h2 => ?_)⟩
    · have h3 : badA l[j] = true := by unfold badA; simp; omega
      refine ⟨?_, st.kp⟩
      rw [← hb, h3]; simp
    refine ⟨_, st.cell 0 rfl rfl, Br.dec (fun h2 => ?_) (fun h2 => ?_)⟩
    · have h3 : badA l[j] = true := by unfold badA; simp; omega
      refine ⟨?_, st.kp⟩
      rw [← hb, h3]; simp
    refine ⟨_, _, _, st.cell 0 rfl rfl, Br.dec (fun h2 => ?_) (fun h2 => ?_)⟩
    · have h3 : badA l[j] = true := by unfold badA; simp; omega
      refine ⟨?_, st.kp⟩
      rw [← hb, h3]; simp
    have h3 : badA l[j] = false := by unfold badA; simp; omega
    rw [h3, Bool.false_or] at hb
    exact LetI.id (by omega) (by omega) ⟨_, by omega, j + 1, by simp, rfl, by omega, hb, st.tail⟩
  · refine ⟨?_, st.kp⟩
    rw [List.drop_eq_nil_of_le (by omega)] at hb
    rw [← hb]
    simp
theorem rbnew_good (c r : Int) (w : World) (h : okArgs c r) : Ca Try.prog 83 #[.int .i64 c, .int .i64 r] w fun e w' => ∃ b, e = .returned (.tuple #[.pointer (some ⟨b, 0, none⟩), .int .i64 0]) ∧ Kp No w w' := by
  unfold okArgs at h
  refine rbnew_ok _ _ _ _ (Br.neg (by simp; omega) (Br.neg (by simp; omega) (Br.neg (by simp; omega) (Br.neg (by simp; omega) ?_))))
  exact LetA.blk fun b w' hb hB hk => ⟨b, rfl, hk⟩
theorem rknew_bad {w0 : World} {c : Cfg} {p : Option Addr} {n k : Nat} (hM : IntAt w0 p c.quanta) (hn : n = c.quanta.length) (hl : c.quanta.length ≤ 1000) {id : Int} (hb : badId c id) :
    Pw Try.prog 46 #[cfV c p n k, .int .i64 id] (.tuple #[.pointer none, .int .i64 2]) w0 := by
  have st : St No w0 w0 [] := St.start w0
  refine rknew_ok _ _ _ _ _ _ _ _ _ _ _ _ _ _ _ _ _ ?_
  unfold rknew
  refine St.alloc st ?_; clear st; intro bc w st
  refine ⟨_, _, _, _, _, _, _, _, _, _, _, _, _, _, st.rowAt 0 rfl rfl, ?_⟩
  refine Pw.go (rscheck_pw (c := c) (hM.no st.kp) hn hl) st ?_; clear st; intro w st
  refine ⟨_, rfl, Br.nei (fun h1 => ⟨rfl, st.kp⟩) (fun h1 => ?_)⟩
  refine Br.dec (fun h2 => ⟨rfl, st.kp⟩) (fun h2 => ?_)
  refine ⟨_, st.cell 0 rfl rfl, Br.dec (fun h3 => ⟨rfl, st.kp⟩) (fun h3 => ?_)⟩
  exfalso
  rcases hb with h | h | h
  · exact h h1
  · exact h2 h
  · exact h3 h
theorem rknew_ca {w0 : World} {c : Cfg} {p : Option Addr} {n k : Nat} (hM : IntAt w0 p c.quanta) (hn : n = c.quanta.length) (hl : c.quanta.length ≤ 1000) (hc : okS c) {id : Int} (hid : 0 ≤ id ∧ id < c.clients) :
    Ca Try.prog 46 #[cfV c p n k, .int .i64 id] w0 fun e w' => ∃ b, e = .returned (.tuple #[.pointer (some ⟨b, 0, none⟩), .int .i64 0]) ∧ Kp No w0 w' := by
  have st : St No w0 w0 [] := St.start w0
  refine rknew_ok _ _ _ _ _ _ _ _ _ _ _ _ _ _ _ _ _ ?_
  unfold rknew
  refine St.alloc st ?_; clear st; intro bc w st
  refine ⟨_, _, _, _, _, _, _, _, _, _, _, _, _, _, st.rowAt 0 rfl rfl, ?_⟩
  refine Pw.go (rscheck_pw (c := c) (hM.no st.kp) hn hl) st ?_; clear st; intro w st
  rw [chkS_ok.2 hc]
  refine ⟨_, rfl, Br.nay rfl (Br.dec (fun h => absurd h (by omega)) (fun _ => ⟨_, st.cell 0 rfl rfl, Br.dec (fun h => absurd h (by omega)) (fun _ => ⟨_, st.cell 0 rfl rfl, _, st.cell 0 rfl rfl, ?_⟩)⟩))⟩
  refine (rbnew_good c.budget c.refill w (okS_args hc)).mono ?_
  rintro _ w1 ⟨bt, rfl, hk1⟩
  replace st := st.keep hk1
  refine ⟨_, _, rfl, Br.nay rfl ?_⟩
  refine ⟨_, _, _, _, _, _, _, _, _, _, _, _, _, _, st.rowAt 0 rfl rfl, ?_⟩
  refine St.alloc st ?_; clear st; intro b w st
  exact ⟨b, rfl, st.kp⟩
end Go.Proofs.Ytljipmhkpnigkaa
