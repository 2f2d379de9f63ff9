/- Package client: New; a client that is none: the contracts. -/
import Derived.Test.YtljipmhkpnigkaaKD
namespace Go.Proofs.Ytljipmhkpnigkaa
open Go.Vc Go.Codec

theorem chkS_val (c : Cfg) : chkS c = 0 ∨ chkS c = 2 := by unfold chkS; split <;> simp
def newC (c : Cfg) (id : Int) : Clt := ⟨id, .none, newBk c.budget c.refill, none, .zero 0, 0, 0, false⟩
theorem okS_args {c : Cfg} (h : okS c) : okArgs c.budget c.refill := by
  obtain ⟨h1, h2⟩ := h.budget
  obtain ⟨h3, h4⟩ := h.refill
  exact ⟨h1, h2, h3, h4⟩
theorem newC_ok {c : Cfg} (h : okS c) (id : Int) : okK (newC c id) :=
  ⟨newBk_ok (okS_args h), by show (0 : Int) ≤ 0; omega, by show (0 : Int) ≤ _; omega, by show (0 : Int) ≤ 0; omega, by show (0 : Int) ≤ _; omega, by show (0 : Int) ≤ 0; omega, by show (0 : Int) ≤ _; omega, Nat.zero_le _⟩
def badId (c : Cfg) (id : Int) : Prop := chkS c ≠ 0 ∨ id < 0 ∨ c.clients ≤ id
instance (c : Cfg) (id : Int) : Decidable (badId c id) := inferInstanceAs (Decidable (_ ∨ _))
theorem knew_bad {w0 : World} {c : Cfg} {p : Option Addr} {n k : Nat} (hM : IntAt w0 p c.quanta) (hn : n = c.quanta.length) (hl : c.quanta.length ≤ 1000) (hk : n ≤ k) (hk' : k ≤ maxLen) {id : Int} (hb : badId c id) :
    Pw Try.prog 45 #[cfV c p n k, .int .i64 id] (.tuple #[.pointer none, .int .i64 2]) w0 := by
  have st : St No w0 w0 [] := St.start w0
  refine knew_ok _ _ _ _ _ _ _ _ _ _ _ _ _ _ _ _ _ ?_
  unfold knew
  refine St.alloc st ?_; clear st; intro bc w st
  refine ⟨_, _, _, _, _, _, _, _, _, _, _, _, _, _, st.rowAt 0 rfl rfl, ?_⟩
  refine Pw.go (scheck_pw (c := c) (hM.no st.kp) hn hl hk hk') st ?_; clear st; intro w st
  refine ⟨_, rfl, Br.nei (fun h1 => ?_) (fun h1 => ?_)⟩
  · rw [show chkS c = 2 by rcases chkS_val c with h | h <;> omega]
    exact ⟨rfl, st.kp⟩
  refine Br.dec (fun h2 => ⟨rfl, st.kp⟩) (fun h2 => ?_)
  refine ⟨_, st.cell 0 rfl rfl, Br.dec (fun h3 => ⟨rfl, st.kp⟩) (fun h3 => ?_)⟩
  exfalso
  rcases hb with h | h | h
  · exact h h1
  · exact h2 h
  · exact h3 h
theorem knew_ca {w0 : World} {c : Cfg} {p : Option Addr} {n k : Nat} (hM : IntAt w0 p c.quanta) (hn : n = c.quanta.length) (hk : n ≤ k) (hk' : k ≤ maxLen) (hc : okS c) {id : Int} (hid : 0 ≤ id ∧ id < c.clients) :
    Ca Try.prog 45 #[cfV c p n k, .int .i64 id] w0 fun e w' => ∃ b bt bs, e = .returned (.tuple #[.pointer (some ⟨b, 0, none⟩), .int .i64 0]) ∧ St No w0 w' (clA b c p n k (newC c id) none 0 bt bs) := by
  have st : St No w0 w0 [] := St.start w0
  obtain ⟨hf1, hf2⟩ := hc.few
  refine knew_ok _ _ _ _ _ _ _ _ _ _ _ _ _ _ _ _ _ ?_
  unfold knew
  refine St.alloc st ?_; clear st; intro bc w st
  refine ⟨_, _, _, _, _, _, _, _, _, _, _, _, _, _, st.rowAt 0 rfl rfl, ?_⟩
  refine Pw.go (scheck_pw (c := c) (hM.no st.kp) hn (by omega) hk hk') st ?_; clear st; intro w st
  rw [chkS_ok.2 hc]
  refine ⟨_, rfl, Br.nay rfl (Br.dec (fun h => absurd h (by omega)) (fun _ => ⟨_, st.cell 0 rfl rfl, Br.dec (fun h => absurd h (by omega)) (fun _ => ⟨_, st.cell 0 rfl rfl, _, st.cell 0 rfl rfl, ?_⟩)⟩))⟩
  refine (new_good c.budget c.refill w (okS_args hc)).mono ?_
  rintro _ w1 ⟨bt, rfl, hge, hB, hk1⟩
  replace st := st.push hk1 (A := tokA bt (newBk c.budget c.refill)) hB (fun g hg => by rw [show g = bt from hg]; exact hge)
  refine ⟨_, _, rfl, Br.nay rfl ?_⟩
  refine ⟨_, _, _, _, _, _, _, _, _, _, _, _, _, _, st.rowAt 1 rfl rfl, ?_⟩
  refine snew_go st ?_
  clear st
  intro bs w st
  refine ⟨_, rfl, st.rowAt 2 rfl rfl, ?_⟩
  refine St.alloc st ?_; clear st; intro b w st
  replace st : St No w0 w [cltB b c p n k (newC c id) none 0 bt bs, sltA bs none, tokA bt (newBk c.budget c.refill), _] := st
  exact ⟨b, bt, bs, rfl, (st.nil0 64 2).pick [1, 3, 2, 0] rfl (by decide)⟩
end Go.Proofs.Ytljipmhkpnigkaa
