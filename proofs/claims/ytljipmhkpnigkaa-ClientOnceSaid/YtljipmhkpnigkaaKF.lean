/- Package client: a client that is none: the contracts; what is sent. -/
import Derived.Test.YtljipmhkpnigkaaKE
namespace Go.Proofs.Ytljipmhkpnigkaa
open Go.Vc Go.Codec

abbrev zeroK : List Value := [.int .i64 0, .int .i64 0, .int .i64 0, .slice none 0 0, .int .i64 0, .int .i64 0, .int .i64 0, .int .i64 0, .int .i64 0, .int .i64 0, .int .i64 0, .int .i64 0, .int .i64 0, .int .i64 0, .slice none 0 0, .int .i64 0, .pointer none, .pointer none, .int .i64 0, .int .i64 0, .int .i64 0, .int .i64 0, .int .i64 0, .int .i64 0, .int .i64 0, .int .i64 0, .string (mk []), .string (mk []), .int .i64 0, .int .i64 0, .string (mk []), .int .i64 0, .int .i64 0, .int .i64 0, .int .i64 0, .int .i64 0, .int .i64 0, .int .i64 0, .string (mk []), .string (mk []), .int .i64 0, .int .i64 0, .slice none 0 0, .int .i64 0, .int .i64 0, .int .i64 0, .int .i64 0, .int .i64 0, .int .i64 0, .bool false]
def NoK (w : World) (p : Option Addr) : Prop := p = none ∨ ∃ b, p = some ⟨b, 0, none⟩ ∧ Blk w b 88 zeroK.toArray
theorem NoK.kp {w w' : World} {p : Option Addr} (h : NoK w p) (hk : Kp No w w') : NoK w' p := by
  rcases h with h | ⟨b, h, hB⟩
  · exact .inl h
  · exact .inr ⟨b, h, hB.kp hk (not_no _)⟩
theorem knone_no {w0 : World} {p : Option Addr} (h : NoK w0 p) : Pw Try.prog 70 #[.pointer p] (.bool true) w0 := by
  rcases h with rfl | ⟨b, rfl, hB⟩
  · exact knone0_ok _ _ ⟨rfl, Kp.refl _ _⟩
  · exact knone_ok _ _ _ ⟨none, hB.at_ rfl, rfl, Kp.refl _ _⟩
theorem kcall_no {w0 : World} {p : Option Addr} (h : NoK w0 p) (o : Opn) (cl dl now : Int) : Pw Try.prog 38 #[.pointer p, opV o, .int .i64 cl, .int .i64 dl, .int .i64 now] (.tuple #[.slice none 0 0, .int .i64 1]) w0 := by
  have st : St No w0 w0 [] := St.start w0
  rcases h with rfl | ⟨b, rfl, hB⟩
  · have h : NoK w0 none := .inl rfl
    refine kcall0_ok _ _ _ _ _ _ _ _ _ ?_
    unfold kcall0
    refine St.alloc st ?_; clear st; intro bo w st
    refine Pw.go (knone_no (h.kp st.kp)) st ?_; clear st; intro w st
    exact ⟨_, rfl, Br.sure rfl ⟨rfl, st.kp⟩⟩
  · have h : NoK w0 (some ⟨b, 0, none⟩) := .inr ⟨b, rfl, hB⟩
    refine kcall_ok _ _ _ _ _ _ _ _ _ _ ?_
    unfold kcall
    refine St.alloc st ?_; clear st; intro bo w st
    refine Pw.go (knone_no (h.kp st.kp)) st ?_; clear st; intro w st
    exact ⟨_, rfl, Br.sure rfl ⟨rfl, st.kp⟩⟩
theorem ktake_no {w0 : World} {p : Option Addr} (h : NoK w0 p) (f : Frm) (pf : Option Addr) (kf : Nat) (now : Int) : Pw Try.prog 40 #[.pointer p, frmV f pf kf, .int .i64 now] (.slice none 0 0) w0 := by
  have st : St No w0 w0 [] := St.start w0
  rcases h with rfl | ⟨b, rfl, hB⟩
  · have h : NoK w0 none := .inl rfl
    refine ktake0_ok _ _ _ _ _ _ _ _ _ _ _ _ _ _ _ _ _ _ _ _ _ _ _ _ _ _ _ _ _ _ _ _ _ _ ?_
    unfold ktake0
    refine St.alloc st ?_; clear st; intro bo w st
    refine Pw.go (knone_no (h.kp st.kp)) st ?_; clear st; intro w st
    exact ⟨_, rfl, Br.sure rfl ⟨rfl, st.kp⟩⟩
  · have h : NoK w0 (some ⟨b, 0, none⟩) := .inr ⟨b, rfl, hB⟩
    refine ktake_ok _ _ _ _ _ _ _ _ _ _ _ _ _ _ _ _ _ _ _ _ _ _ _ _ _ _ _ _ _ _ _ _ _ _ _ ?_
    unfold ktake
    refine St.alloc st ?_; clear st; intro bo w st
    refine Pw.go (knone_no (h.kp st.kp)) st ?_; clear st; intro w st
    exact ⟨_, rfl, Br.sure rfl ⟨rfl, st.kp⟩⟩
theorem ktick_no {w0 : World} {p : Option Addr} (h : NoK w0 p) (now : Int) : Pw Try.prog 41 #[.pointer p, .int .i64 now] (.slice none 0 0) w0 := by
  have st : St No w0 w0 [] := St.start w0
  rcases h with rfl | ⟨b, rfl, hB⟩
  · have h : NoK w0 none := .inl rfl
    refine ktick0_ok _ _ _ ?_
    unfold ktick0
    refine Pw.go (knone_no (h.kp st.kp)) st ?_; clear st; intro w st
    exact ⟨_, rfl, Br.sure rfl ⟨rfl, st.kp⟩⟩
  · have h : NoK w0 (some ⟨b, 0, none⟩) := .inr ⟨b, rfl, hB⟩
    refine ktick_ok _ _ _ _ ?_
    unfold ktick
    refine Pw.go (knone_no (h.kp st.kp)) st ?_; clear st; intro w st
    exact ⟨_, rfl, Br.sure rfl ⟨rfl, st.kp⟩⟩
theorem koutcome_no {w0 : World} {p : Option Addr} (h : NoK w0 p) : Pw Try.prog 39 #[.pointer p] (.tuple #[outV .zero, .bool false]) w0 := by
  have st : St No w0 w0 [] := St.start w0
  rcases h with rfl | ⟨b, rfl, hB⟩
  · have h : NoK w0 none := .inl rfl
    refine koutcome0_ok _ _ ?_
    unfold koutcome0
    refine St.alloc st ?_; clear st; intro bo w st
    refine Pw.go (knone_no (h.kp st.kp)) st ?_; clear st; intro w st
    refine ⟨_, rfl, Br.sure rfl ⟨st.wrRow 0 rfl rfl rfl, ?_⟩⟩
    refine St.storeRow st 0 rfl ?_; clear st; intro w st; simp only [List.set, setsL] at st
    exact ⟨_, _, _, _, _, _, st.rowAt 0 rfl rfl, rfl, st.kp⟩
  · have h : NoK w0 (some ⟨b, 0, none⟩) := .inr ⟨b, rfl, hB⟩
    refine koutcome_ok _ _ _ ?_
    unfold koutcome
    refine St.alloc st ?_; clear st; intro bo w st
    refine Pw.go (knone_no (h.kp st.kp)) st ?_; clear st; intro w st
    refine ⟨_, rfl, Br.sure rfl ⟨st.wrRow 0 rfl rfl rfl, ?_⟩⟩
    refine St.storeRow st 0 rfl ?_; clear st; intro w st; simp only [List.set, setsL] at st
    exact ⟨_, _, _, _, _, _, st.rowAt 0 rfl rfl, rfl, st.kp⟩
theorem kbusy_no {w0 : World} {p : Option Addr} (h : NoK w0 p) : Pw Try.prog 42 #[.pointer p] (.bool false) w0 := by
  have st : St No w0 w0 [] := St.start w0
  rcases h with rfl | ⟨b, rfl, hB⟩
  · have h : NoK w0 none := .inl rfl
    refine kbusy0_ok _ _ ?_
    unfold kbusy0
    refine Pw.go (knone_no (h.kp st.kp)) st ?_; clear st; intro w st
    exact ⟨_, rfl, Br.nay rfl ⟨rfl, st.kp⟩⟩
  · have h : NoK w0 (some ⟨b, 0, none⟩) := .inr ⟨b, rfl, hB⟩
    refine kbusy_ok _ _ _ ?_
    unfold kbusy
    refine Pw.go (knone_no (h.kp st.kp)) st ?_; clear st; intro w st
    exact ⟨_, rfl, Br.nay rfl ⟨rfl, st.kp⟩⟩
theorem kseq_no {w0 : World} {p : Option Addr} (h : NoK w0 p) : Pw Try.prog 43 #[.pointer p] (.int .i64 0) w0 := by
  have st : St No w0 w0 [] := St.start w0
  rcases h with rfl | ⟨b, rfl, hB⟩
  · have h : NoK w0 none := .inl rfl
    refine kseq0_ok _ _ ?_
    unfold kseq0
    refine Pw.go (knone_no (h.kp st.kp)) st ?_; clear st; intro w st
    exact ⟨_, rfl, Br.sure rfl ⟨rfl, st.kp⟩⟩
  · have h : NoK w0 (some ⟨b, 0, none⟩) := .inr ⟨b, rfl, hB⟩
    refine kseq_ok _ _ _ ?_
    unfold kseq
    refine Pw.go (knone_no (h.kp st.kp)) st ?_; clear st; intro w st
    exact ⟨_, rfl, Br.sure rfl ⟨rfl, st.kp⟩⟩
theorem ktries_no {w0 : World} {p : Option Addr} (h : NoK w0 p) : Pw Try.prog 44 #[.pointer p] (.int .i64 0) w0 := by
  have st : St No w0 w0 [] := St.start w0
  rcases h with rfl | ⟨b, rfl, hB⟩
  · have h : NoK w0 none := .inl rfl
    refine ktries0_ok _ _ ?_
    unfold ktries0
    refine Pw.go (knone_no (h.kp st.kp)) st ?_; clear st; intro w st
    exact ⟨_, rfl, Br.sure rfl ⟨rfl, st.kp⟩⟩
  · have h : NoK w0 (some ⟨b, 0, none⟩) := .inr ⟨b, rfl, hB⟩
    refine ktries_ok _ _ _ ?_
    unfold ktries
    refine Pw.go (knone_no (h.kp st.kp)) st ?_; clear st; intro w st
    exact ⟨_, rfl, Br.sure rfl ⟨rfl, st.kp⟩⟩
theorem kto_pw {w0 : World} {g : Nat} {to : Int} {f : Frm} (h : (sndA g to f).p w0) : Pw Try.prog 69 #[.slice (some ⟨g, 0, none⟩) 1 1, .int .i64 to, .int .i64 f.kind] (.bool true) w0 := by
  refine kto_ok _ _ _ _ _ _ _ ?_
  unfold kto
  refine Br.sure rfl (NilOk.intro rfl ⟨⟨by omega, by omega⟩, _, Blk.at_ h (i := 0) rfl, Br.eqi (fun _ => ?_) (fun hh => absurd rfl hh)⟩)
  refine NilOk.intro rfl ⟨⟨by omega, by omega⟩, _, Blk.at_ h (i := 1) rfl, ?_, Kp.refl _ _⟩
  rw [beq_self_eq_true]
end Go.Proofs.Ytljipmhkpnigkaa
