/- Several texts in one: Vh. -/
import Derived.Test.YtaahialaegfjgaaGreatDoorPk2
import Derived.KernelRfl
import Derived.Test.YtaahialaegfjgaaGreatDoorPk3
section
set_option maxRecDepth 100000
set_option linter.unusedVariables false
namespace Go.Proofs.YtaahialaegfjgaaGreatDoor.Vh
open Go.Vm
def Qna (L : QL) (K : QK) (a0 : V) (h : Heap) : Prop :=
 (wi F L (.nilck (.c a0)) E0 h fun v3 h =>
 (wi F L (.faddr 3 (.c v3)) E0 h fun v4 h =>
 (wi F L (.store 1 (.c v4) (.c (.bool true))) E0 h fun _ h =>
 (∃ v, Qa h (Qd []) [] = some v ∧ K v h))))
theorem QI7 {L : QL} {K : QK} {a0 : V} {h : Heap} (hp : Qna L K a0 h) : Cf F L QeJ [a0] h K :=
  wcallp QCj (of_decide_eq_true (by kernel_rfl)) (p := Qna L K a0 h) (by kernel_rfl) hp
def QqU (L : QL) (K : QK) (a0 : V) (h : Heap) : Prop :=
 (wi F L (.nilck (.c a0)) E0 h fun v3 h =>
 (wi F L (.faddr 4 (.c v3)) E0 h fun v4 h =>
 (wi F L (.store 1 (.c v4) (.c (.bool true))) E0 h fun _ h =>
 (∃ v, Qa h (Qd []) [] = some v ∧ K v h))))
theorem QDT {L : QL} {K : QK} {a0 : V} {h : Heap} (hp : QqU L K a0 h) : Cf F L Qev [a0] h K :=
  wcallp QGM (of_decide_eq_true (by kernel_rfl)) (p := QqU L K a0 h) (by kernel_rfl) hp
def QmM (L : QL) (K : QK) (a0 : V) (h : Heap) : Prop :=
 (wi F L (.nilck (.c a0)) E0 h fun v3 h =>
 (wi F L (.faddr 5 (.c v3)) E0 h fun v4 h =>
 (wi F L (.store 1 (.c v4) (.c (.bool true))) E0 h fun _ h =>
 (∃ v, Qa h (Qd []) [] = some v ∧ K v h))))
theorem QxD {L : QL} {K : QK} {a0 : V} {h : Heap} (hp : QmM L K a0 h) : Cf F L QeH [a0] h K :=
  wcallp Qy5 (of_decide_eq_true (by kernel_rfl)) (p := QmM L K a0 h) (by kernel_rfl) hp
def QlQ (L : QL) (K : QK) (a0 : V) (h : Heap) : Prop :=
 (wi F L (.nilck (.c a0)) E0 h fun v3 h =>
 (wi F L (.faddr 6 (.c v3)) E0 h fun v4 h =>
 (wi F L (.store 1 (.c v4) (.c (.bool true))) E0 h fun _ h =>
 (∃ v, Qa h (Qd []) [] = some v ∧ K v h))))
theorem QH4 {L : QL} {K : QK} {a0 : V} {h : Heap} (hp : QlQ L K a0 h) : Cf F L QeU [a0] h K :=
  wcallp QFi (of_decide_eq_true (by kernel_rfl)) (p := QlQ L K a0 h) (by kernel_rfl) hp
def Qlb (L : QL) (K : QK) (a0 : V) (h : Heap) : Prop :=
 (wi F L (.nilck (.c a0)) E0 h fun v4 h =>
 (wi F L (.faddr 7 (.c v4)) E0 h fun v5 h =>
 (∃ v, some v5 = some v ∧ K v h)))
theorem Qyo {L : QL} {K : QK} {a0 : V} {h : Heap} (hp : Qlb L K a0 h) : Cf F L QeQ [a0] h K :=
  wcallp QA0 (of_decide_eq_true (by kernel_rfl)) (p := Qlb L K a0 h) (by kernel_rfl) hp
def QlL (L : QL) (K : QK) (a0 : V) (h : Heap) : Prop :=
 (wi F L (.nilck (.c a0)) E0 h fun v4 h =>
 (wi F L (.faddr 8 (.c v4)) E0 h fun v5 h =>
 (∃ v, some v5 = some v ∧ K v h)))
theorem QEa {L : QL} {K : QK} {a0 : V} {h : Heap} (hp : QlL L K a0 h) : Cf F L QeV [a0] h K :=
  wcallp QJR (of_decide_eq_true (by kernel_rfl)) (p := QlL L K a0 h) (by kernel_rfl) hp
def QmC (L : QL) (K : QK) (a0 : V) (h : Heap) : Prop :=
 (wi F L (.nilck (.c a0)) E0 h fun v4 h =>
 (wi F L (.faddr 9 (.c v4)) E0 h fun v5 h =>
 (∃ v, some v5 = some v ∧ K v h)))
theorem QF2 {L : QL} {K : QK} {a0 : V} {h : Heap} (hp : QmC L K a0 h) : Cf F L QeX [a0] h K :=
  wcallp QDo (of_decide_eq_true (by kernel_rfl)) (p := QmC L K a0 h) (by kernel_rfl) hp
def QlH (L : QL) (K : QK) (a0 : V) (h : Heap) : Prop :=
 (wi F L (.nilck (.c a0)) E0 h fun v4 h =>
 (wi F L (.faddr 10 (.c v4)) E0 h fun v5 h =>
 (∃ v, some v5 = some v ∧ K v h)))
theorem Qw2 {L : QL} {K : QK} {a0 : V} {h : Heap} (hp : QlH L K a0 h) : Cf F L QeK [a0] h K :=
  wcallp QCx (of_decide_eq_true (by kernel_rfl)) (p := QlH L K a0 h) (by kernel_rfl) hp
def QoP (L : QL) (K : QK) (a0 : V) (h : Heap) : Prop :=
 (wi F L (.nilck (.c a0)) E0 h fun v4 h =>
 (wi F L (.faddr 11 (.c v4)) E0 h fun v5 h =>
 (∃ v, some v5 = some v ∧ K v h)))
theorem QET {L : QL} {K : QK} {a0 : V} {h : Heap} (hp : QoP L K a0 h) : Cf F L Qe4 [a0] h K :=
  wcallp QIZ (of_decide_eq_true (by kernel_rfl)) (p := QoP L K a0 h) (by kernel_rfl) hp
def Qly (L : QL) (K : QK) (a0 : V) (h : Heap) : Prop :=
 (wi F L (.nilck (.c a0)) E0 h fun v4 h =>
 (wi F L (.faddr 12 (.c v4)) E0 h fun v5 h =>
 (∃ v, some v5 = some v ∧ K v h)))
theorem QBi {L : QL} {K : QK} {a0 : V} {h : Heap} (hp : Qly L K a0 h) : Cf F L Qfc [a0] h K :=
  wcallp QwQ (of_decide_eq_true (by kernel_rfl)) (p := Qly L K a0 h) (by kernel_rfl) hp
def QnJ (L : QL) (K : QK) (a0 a1 : V) (h : Heap) : Prop :=
 (wi F L (.call QfG [(.c a0), (.c a1)]) E0 h fun v9 h =>
 (wi F L (.ext 0 (.c v9)) E0 h fun v10 h =>
 (wi F L (.ext 1 (.c v9)) E0 h fun v11 h =>
 (wi F L (.ext 2 (.c v9)) E0 h fun v12 h =>
 (∃ v, Qa h (Qd [v10, v11, v12]) [.tmp 0, .tmp 1, .tmp 2] = some v ∧ K v h)))))
theorem QDX {L : QL} {K : QK} {a0 a1 : V} {h : Heap} (hp : QnJ L K a0 a1 h) : Cf F L Qf2 [a0, a1] h K :=
  wcallp QBe (of_decide_eq_true (by kernel_rfl)) (p := QnJ L K a0 a1 h) (by kernel_rfl) hp
def Qhf (L : QL) (K : QK) (v0 : V) (h : Heap) : Prop :=
 (wi F L (.nilck (.c v0)) E0 h fun v42 h =>
 (wi F L (.faddr 1 (.c v42)) E0 h fun v43 h =>
 (wi F L (.store 1 (.c v43) (.c (.bool false))) E0 h fun _ h =>
 (∃ v, some (.int .i64 0) = some v ∧ K v h))))
def QiD (L : QL) (K : QK) (N0 : QN) (e : Env) (v8 : V) (h : Heap) : Prop :=
 (wi F L (.bin .add (.c v8) (.c (.int .i64 1))) E0 h fun v40 h =>
 (N0 (upd (upd e 40 v40) 8 v40) h))
def QfX (L : QL) (K : QK) (N0 : QN) (e : Env) (v0 v5 v6 v8 : V) (h : Heap) : Prop :=
 (wi F L (.nilck (.c v0)) E0 h fun v17 h =>
 (wi F L (.faddr 0 (.c v17)) E0 h fun v18 h =>
 (wi F L (.load false 1 (.c v18)) E0 h fun v19 h =>
 (wi F L (.len 0 (.c v19)) E0 h fun v20 h =>
 (wi F L (.len 0 (.c v6)) E0 h fun v22 h =>
 (wi F L (.bin .gtr (.c v20) (.c v22)) E0 h fun v23 h =>
 (wg v23 true (wi F L (.mv (.c v0)) E0 h) h fun v25 h =>
 (wg v23 true (wi F L (.nilck (.c v25)) E0 h) h fun v26 h =>
 (wg v23 true (wi F L (.faddr 0 (.c v26)) E0 h) h fun v27 h =>
 (wg v23 true (wi F L (.load false 1 (.c v27)) E0 h) h fun v28 h =>
 (wg v23 true (wi F L (.mv (.c v6)) E0 h) h fun v29 h =>
 (wg v23 true (wi F L (.len 0 (.c v29)) E0 h) h fun v30 h =>
 (wg v23 true (wi F L (.slstr (.c v28) none (some (.c v30))) E0 h) h fun v31 h =>
 (wg v23 true (wi F L (.mv (.c v6)) E0 h) h fun v32 h =>
 (wg v23 true (wi F L (.bin .eql (.c v31) (.c v32)) E0 h) h fun v33 h =>
 (wi F L (.pick (.c v23) (.c v33) (.c (.bool false))) E0 h fun v34 h =>
 (wb v34
 (wi F L (.len 0 (.c v6)) E0 h fun v37 h =>
 (wi F L (.call QcQ [(.c v0), (.c v37)]) E0 h fun v38 h =>
 (∃ v, some v5 = some v ∧ K v h)))
 (QiD L K N0 (upd (upd (upd (upd (upd (upd (upd (upd (upd (upd (upd (upd (upd (upd (upd (upd (upd (upd (upd e 16 v0) 17 v17) 18 v18) 19 v19) 20 v20) 21 v6) 22 v22) 23 v23) 24 v23) 25 v25) 26 v26) 27 v27) 28 v28) 29 v29) 30 v30) 31 v31) 32 v32) 33 v33) 34 v34) v8 h))))))))))))))))))
def Qft (L : QL) (K : QK) (N0 : QN) (e : Env) (v0 v1 v7 v8 : V) (h : Heap) : Prop :=
 (wi F L (.ixArr 7 1 false (.c v7) (.c v8)) E0 h fun v11 h =>
 (wi F L (.un .not (.c v1)) E0 h fun v13 h =>
 (wb v13
 (wi F L (.slstr (.c v11) none (some (.c (.int .i64 3)))) E0 h fun v15 h =>
 (QfX L K N0 (upd (upd (upd (upd (upd (upd (upd (upd (upd e 10 v8) 11 v11) 5 v8) 6 v11) 12 v1) 13 v13) 14 v11) 15 v15) 6 v15) v0 v8 v15 v8 h))
 (QfX L K N0 (upd (upd (upd (upd (upd (upd e 10 v8) 11 v11) 5 v8) 6 v11) 12 v1) 13 v13) v0 v8 v11 v8 h))))
def QtR (L : QL) (K : QK) : X → Env → Heap → Prop := (fun x => (seqX (fun e h => Qhf L K (e 0) h) (Qy Qje.results K)) (X.out 0 x))
def QuI : C :=
 (.seq (.region [⟨(some 9), none, .bin .lss (.t 8) (.c (.int .i64 7))⟩])
 (.seq (.cond (.t 9)
 .skip
 (.exit 0))
 (.seq (.block 1 (.seq (.region [⟨(some 10), none, .mv (.t 8)⟩, ⟨(some 11), none, .ixArr 7 1 false (.t 7) (.t 8)⟩, ⟨(some 5), none, .mv (.t 10)⟩, ⟨(some 6), none, .mv (.t 11)⟩])
 (.seq (.seq (.region [⟨(some 12), none, .mv (.t 1)⟩, ⟨(some 13), none, .un .not (.t 12)⟩])
 (.cond (.t 13)
 (.region [⟨(some 14), none, .mv (.t 6)⟩, ⟨(some 15), none, .slstr (.t 14) none (some (.c (.int .i64 3)))⟩, ⟨(some 6), none, .mv (.t 15)⟩])
 .skip))
 (.seq (.region [⟨(some 16), none, .mv (.t 0)⟩, ⟨(some 17), none, .nilck (.t 16)⟩, ⟨(some 18), none, .faddr 0 (.t 17)⟩, ⟨(some 19), none, .load false 1 (.t 18)⟩, ⟨(some 20), none, .len 0 (.t 19)⟩, ⟨(some 21), none, .mv (.t 6)⟩, ⟨(some 22), none, .len 0 (.t 21)⟩, ⟨(some 23), none, .bin .gtr (.t 20) (.t 22)⟩, ⟨(some 24), none, .mv (.t 23)⟩, ⟨(some 25), (some (24, true)), .mv (.t 0)⟩, ⟨(some 26), (some (24, true)), .nilck (.t 25)⟩, ⟨(some 27), (some (24, true)), .faddr 0 (.t 26)⟩, ⟨(some 28), (some (24, true)), .load false 1 (.t 27)⟩, ⟨(some 29), (some (24, true)), .mv (.t 6)⟩, ⟨(some 30), (some (24, true)), .len 0 (.t 29)⟩, ⟨(some 31), (some (24, true)), .slstr (.t 28) none (some (.t 30))⟩, ⟨(some 32), (some (24, true)), .mv (.t 6)⟩, ⟨(some 33), (some (24, true)), .bin .eql (.t 31) (.t 32)⟩, ⟨(some 34), none, .pick (.t 24) (.t 33) (.c (.bool false))⟩])
 (.cond (.t 34)
 (.seq (.region [⟨(some 35), none, .mv (.t 0)⟩, ⟨(some 36), none, .mv (.t 6)⟩, ⟨(some 37), none, .len 0 (.t 36)⟩, ⟨(some 38), none, .call QcQ [(.t 35), (.t 37)]⟩])
 (.seq (.region [⟨(some 39), none, .mv (.t 5)⟩, ⟨(some 4), none, .mv (.t 39)⟩])
 .ret))
 .skip)))))
 (.region [⟨(some 40), none, .bin .add (.t 8) (.c (.int .i64 1))⟩, ⟨(some 8), none, .mv (.t 40)⟩]))))
def QnP (L : QL) (K : QK) (N0 : QN) (e : Env) (h : Heap) : Prop :=
 (wi F L (.bin .lss (.c (e 8)) (.c (.int .i64 7))) E0 h fun v9 h =>
 (wb v9
 (Qft L K N0 (upd e 9 v9) (e 0) (e 1) (e 7) (e 8) h)
 (Qhf L K (e 0) h)))
theorem QFj {L : QL} {K : QK} (I : Nat → Env → Heap → Prop) (hr : ∀ n e h, I n e h → QnP L K (fun e' h' => ∃ m, m < n ∧ I m e' h') e h) {n : Nat} {e : Env} {h : Heap} (hi : I n e h) : Wl F L QuI (QtR L K) e h :=
  wloopp (b := QnP L K) I (fun _ _ _ => by kernel_rfl) hr hi
def QoV (L : QL) (K : QK) (a0 a1 : V) (h : Heap) : Prop :=
 (wi F L (.call QfT []) E0 h fun v7 h =>
 (Wl F L QuI (QtR L K) (upd (upd (upd (Qd [a0, a1]) 4 (.int .i64 0)) 7 v7) 8 (.int .i64 0)) h))
theorem QAg {L : QL} {K : QK} {a0 a1 : V} {h : Heap} (hp : QoV L K a0 a1 h) : Cf F L QdD [a0, a1] h K :=
  wcallp QIG (of_decide_eq_true (by kernel_rfl)) (p := QoV L K a0 a1 h) (by kernel_rfl) hp
def QlO (L : QL) (K : QK) (a0 a1 : V) (h : Heap) : Prop :=
 (wi F L (.len 0 (.c a1)) E0 h fun v6 h =>
 (wi F L (.call QcQ [(.c a0), (.c v6)]) E0 h fun v7 h =>
 (wi F L (.bin .neq (.c v7) (.c a1)) E0 h fun v9 h =>
 (wb v9
 (wi F L (.nilck (.c a0)) E0 h fun v11 h =>
 (wi F L (.faddr 1 (.c v11)) E0 h fun v12 h =>
 (wi F L (.store 1 (.c v12) (.c (.bool false))) E0 h fun _ h =>
 (∃ v, Qa h (Qd []) [] = some v ∧ K v h))))
 (∃ v, Qa h (Qd []) [] = some v ∧ K v h)))))
theorem QI5 {L : QL} {K : QK} {a0 a1 : V} {h : Heap} (hp : QlO L K a0 a1 h) : Cf F L QaA [a0, a1] h K :=
  wcallp QDc (of_decide_eq_true (by kernel_rfl)) (p := QlO L K a0 a1 h) (by kernel_rfl) hp
def QhI (L : QL) (K : QK) (v6 : V) (h : Heap) : Prop :=
 (wi F L (.load false 1 (.c v6)) E0 h fun v24 h =>
 (∃ v, some v24 = some v ∧ K v h))
def QjH (L : QL) (K : QK) (N0 : QN) (e : Env) (v15 : V) (h : Heap) : Prop :=
 (wi F L (.bin .add (.c v15) (.c (.int .i64 1))) E0 h fun v23 h =>
 (N0 (upd (upd e 23 v23) 15 v23) h))
def Qks (L : QL) (K : QK) (N0 : QN) (e : Env) (v5 v7 v15 : V) (h : Heap) : Prop :=
 (wi F L (.ixStr (.c v5) (.c v15)) E0 h fun v21 h =>
 (wi F L (.callv (.c v7) [(.c v21)]) E0 h fun v22 h =>
 (QjH L K N0 (upd (upd (upd (upd (upd (upd (upd e 17 v15) 8 v15) 18 v7) 19 v5) 20 v15) 21 v21) 22 v22) v15 h)))
def QmZ (L : QL) (K : QK) : X → Env → Heap → Prop := (fun x => (seqX (fun e h => QhI L K (e 6) h) (Qy Qi4.results K)) (X.out 0 x))
def Qk4 : C :=
 (.seq (.region [⟨(some 16), none, .bin .lss (.t 15) (.t 14)⟩])
 (.seq (.cond (.t 16)
 .skip
 (.exit 0))
 (.seq (.block 1 (.seq (.region [⟨(some 17), none, .mv (.t 15)⟩, ⟨(some 8), none, .mv (.t 17)⟩])
 (.region [⟨(some 18), none, .mv (.t 7)⟩, ⟨(some 19), none, .mv (.t 5)⟩, ⟨(some 20), none, .mv (.t 8)⟩, ⟨(some 21), none, .ixStr (.t 19) (.t 20)⟩, ⟨(some 22), none, .callv (.t 18) [(.t 21)]⟩])))
 (.region [⟨(some 23), none, .bin .add (.t 15) (.c (.int .i64 1))⟩, ⟨(some 15), none, .mv (.t 23)⟩]))))
def QlF (L : QL) (K : QK) (N0 : QN) (e : Env) (h : Heap) : Prop :=
 (wi F L (.bin .lss (.c (e 15)) (.c (e 14))) E0 h fun v16 h =>
 (wb v16
 (Qks L K N0 (upd e 16 v16) (e 5) (e 7) (e 15) h)
 (QhI L K (e 6) h)))
theorem QDv {L : QL} {K : QK} (I : Nat → Env → Heap → Prop) (hr : ∀ n e h, I n e h → QlF L K (fun e' h' => ∃ m, m < n ∧ I m e' h') e h) {n : Nat} {e : Env} {h : Heap} (hi : I n e h) : Wl F L Qk4 (QmZ L K) e h :=
  wloopp (b := QlF L K) I (fun _ _ _ => by kernel_rfl) hr hi
def QpN (L : QL) (K : QK) (a0 a1 : V) (h : Heap) : Prop :=
 (wi F L (.box (.c a0)) E0 h fun v2 h =>
 (wi F L (.load false 1 (.c v2)) E0 h fun v9 h =>
 (wi F L (.call QcQ [(.c v9), (.c a1)]) E0 h fun v11 h =>
 (wi F L (.boxz [(.int .i64 0)]) E0 h fun v6 h =>
 (wi F L (.store 1 (.c v6) (.c (.int .i64 0))) E0 h fun _ h =>
 (wi F L (.mkfn Qd0 [(.c v2), (.c v6)]) E0 h fun v12 h =>
 (wi F L (.len 0 (.c v11)) E0 h fun v14 h =>
 (Wl F L Qk4 (QmZ L K) (upd (upd (upd (upd (upd (upd (upd (upd (upd (upd (upd (upd (Qd [a0, a1]) 2 v2) 4 (.int .i64 0)) 9 v9) 10 a1) 11 v11) 5 v11) 6 v6) 12 v12) 7 v12) 13 v11) 14 v14) 15 (.int .i64 0)) h))))))))
theorem QI8 {L : QL} {K : QK} {a0 a1 : V} {h : Heap} (hp : QpN L K a0 a1 h) : Cf F L QbJ [a0, a1] h K :=
  wcallp QB0 (of_decide_eq_true (by kernel_rfl)) (p := QpN L K a0 a1 h) (by kernel_rfl) hp
def Qe1 (L : QL) (K : QK) (v0 : V) (h : Heap) : Prop :=
 (wi F L (.nilck (.c v0)) E0 h fun v20 h =>
 (wi F L (.faddr 1 (.c v20)) E0 h fun v21 h =>
 (wi F L (.store 1 (.c v21) (.c (.bool false))) E0 h fun _ h =>
 (∃ v, some (.int .i64 0) = some v ∧ K v h))))
def Qfn (L : QL) (K : QK) (N0 : QN) (e : Env) (v9 : V) (h : Heap) : Prop :=
 (wi F L (.bin .add (.c v9) (.c (.int .i64 1))) E0 h fun v18 h =>
 (N0 (upd (upd e 18 v18) 9 v18) h))
def QfM (L : QL) (K : QK) (N0 : QN) (e : Env) (v3 v8 v9 : V) (h : Heap) : Prop :=
 (wi F L (.ixArr 12 1 false (.c v8) (.c v9)) E0 h fun v12 h =>
 (wi F L (.bin .eql (.c v12) (.c v3)) E0 h fun v15 h =>
 (wb v15
 (wi F L (.bin .add (.c v9) (.c (.int .i64 1))) E0 h fun v17 h =>
 (∃ v, some v17 = some v ∧ K v h))
 (Qfn L K N0 (upd (upd (upd (upd (upd (upd (upd e 11 v9) 12 v12) 4 v9) 5 v12) 13 v12) 14 v3) 15 v15) v9 h))))
def Quz (L : QL) (K : QK) : X → Env → Heap → Prop := (fun x => (seqX (fun e h => Qe1 L K (e 0) h) (Qy Qkl.results K)) (X.out 0 x))
def Qth : C :=
 (.seq (.region [⟨(some 10), none, .bin .lss (.t 9) (.c (.int .i64 12))⟩])
 (.seq (.cond (.t 10)
 .skip
 (.exit 0))
 (.seq (.block 1 (.seq (.region [⟨(some 11), none, .mv (.t 9)⟩, ⟨(some 12), none, .ixArr 12 1 false (.t 8) (.t 9)⟩, ⟨(some 4), none, .mv (.t 11)⟩, ⟨(some 5), none, .mv (.t 12)⟩])
 (.seq (.region [⟨(some 13), none, .mv (.t 5)⟩, ⟨(some 14), none, .mv (.t 3)⟩, ⟨(some 15), none, .bin .eql (.t 13) (.t 14)⟩])
 (.cond (.t 15)
 (.seq (.region [⟨(some 16), none, .mv (.t 4)⟩, ⟨(some 17), none, .bin .add (.t 16) (.c (.int .i64 1))⟩, ⟨(some 2), none, .mv (.t 17)⟩])
 .ret)
 .skip))))
 (.region [⟨(some 18), none, .bin .add (.t 9) (.c (.int .i64 1))⟩, ⟨(some 9), none, .mv (.t 18)⟩]))))
def Qp1 (L : QL) (K : QK) (N0 : QN) (e : Env) (h : Heap) : Prop :=
 (wi F L (.bin .lss (.c (e 9)) (.c (.int .i64 12))) E0 h fun v10 h =>
 (wb v10
 (QfM L K N0 (upd e 10 v10) (e 3) (e 8) (e 9) h)
 (Qe1 L K (e 0) h)))
theorem QE7 {L : QL} {K : QK} (I : Nat → Env → Heap → Prop) (hr : ∀ n e h, I n e h → Qp1 L K (fun e' h' => ∃ m, m < n ∧ I m e' h') e h) {n : Nat} {e : Env} {h : Heap} (hi : I n e h) : Wl F L Qth (Quz L K) e h :=
  wloopp (b := Qp1 L K) I (fun _ _ _ => by kernel_rfl) hr hi
def QqT (L : QL) (K : QK) (a0 : V) (h : Heap) : Prop :=
 (wi F L (.call QcQ [(.c a0), (.c (.int .i64 3))]) E0 h fun v7 h =>
 (wi F L (.call Qf5 []) E0 h fun v8 h =>
 (Wl F L Qth (Quz L K) (upd (upd (upd (upd (upd (upd (Qd [a0]) 2 (.int .i64 0)) 6 a0) 7 v7) 3 v7) 8 v8) 9 (.int .i64 0)) h)))
theorem QEK {L : QL} {K : QK} {a0 : V} {h : Heap} (hp : QqT L K a0 h) : Cf F L QdE [a0] h K :=
  wcallp QCa (of_decide_eq_true (by kernel_rfl)) (p := QqT L K a0 h) (by kernel_rfl) hp
def Qhm (L : QL) (K : QK) (v3 v4 v5 : V) (h : Heap) : Prop :=
 (wi F L (.bin .mul (.c v3) (.c (.int .i64 3600))) E0 h fun v30 h =>
 (wi F L (.bin .mul (.c v4) (.c (.int .i64 60))) E0 h fun v32 h =>
 (wi F L (.bin .add (.c v30) (.c v32)) E0 h fun v33 h =>
 (wi F L (.mn [(.c v5), (.c (.int .i64 59))]) E0 h fun v35 h =>
 (wi F L (.bin .add (.c v33) (.c v35)) E0 h fun v36 h =>
 (∃ v, some v36 = some v ∧ K v h))))))
def Qmw (L : QL) (K : QK) (a0 : V) (h : Heap) : Prop :=
 (wi F L (.call QbJ [(.c a0), (.c (.int .i64 2))]) E0 h fun v7 h =>
 (wi F L (.call QaA [(.c a0), (.c (.str [58]))]) E0 h fun v9 h =>
 (wi F L (.call QbJ [(.c a0), (.c (.int .i64 2))]) E0 h fun v11 h =>
 (wi F L (.call QaA [(.c a0), (.c (.str [58]))]) E0 h fun v13 h =>
 (wi F L (.call QbJ [(.c a0), (.c (.int .i64 2))]) E0 h fun v15 h =>
 (wi F L (.bin .geq (.c v7) (.c (.int .i64 24))) E0 h fun v17 h =>
 (wg v17 false (wi F L (.mv (.c v11)) E0 h) h fun v19 h =>
 (wg v17 false (wi F L (.bin .geq (.c v19) (.c (.int .i64 60))) E0 h) h fun v20 h =>
 (wi F L (.pick (.c v17) (.c (.bool true)) (.c v20)) E0 h fun v21 h =>
 (wg v21 false (wi F L (.mv (.c v15)) E0 h) h fun v23 h =>
 (wg v21 false (wi F L (.bin .gtr (.c v23) (.c (.int .i64 60))) E0 h) h fun v24 h =>
 (wi F L (.pick (.c v21) (.c (.bool true)) (.c v24)) E0 h fun v25 h =>
 (wb v25
 (wi F L (.nilck (.c a0)) E0 h fun v27 h =>
 (wi F L (.faddr 1 (.c v27)) E0 h fun v28 h =>
 (wi F L (.store 1 (.c v28) (.c (.bool false))) E0 h fun _ h =>
 (Qhm L K v7 v11 v15 h))))
 (Qhm L K v7 v11 v15 h))))))))))))))
theorem QA1 {L : QL} {K : QK} {a0 : V} {h : Heap} (hp : Qmw L K a0 h) : Cf F L QdI [a0] h K :=
  wcallp QG5 (of_decide_eq_true (by kernel_rfl)) (p := Qmw L K a0 h) (by kernel_rfl) hp
def QgZ (L : QL) (K : QK) (v5 v14 : V) (h : Heap) : Prop :=
 (wi F L (.bin .mul (.c v14) (.c (.int .i64 86400))) E0 h fun v43 h =>
 (wi F L (.bin .add (.c v43) (.c v5)) E0 h fun v45 h =>
 (∃ v, Qa h (Qd [v45, (.bool true)]) [.tmp 0, .tmp 1] = some v ∧ K v h)))
def QoA (L : QL) (K : QK) (a0 a1 a2 a3 a4 a5 : V) (h : Heap) : Prop :=
 (wi F L (.call Qgc [(.c a2), (.c a3), (.c a4)]) E0 h fun v18 h =>
 (wi F L (.nilck (.c a0)) E0 h fun v20 h =>
 (wi F L (.faddr 1 (.c v20)) E0 h fun v21 h =>
 (wi F L (.load false 1 (.c v21)) E0 h fun v22 h =>
 (wi F L (.un .not (.c v22)) E0 h fun v23 h =>
 (wg v23 false (wi F L (.mv (.c a0)) E0 h) h fun v25 h =>
 (wg v23 false (wi F L (.nilck (.c v25)) E0 h) h fun v26 h =>
 (wg v23 false (wi F L (.faddr 0 (.c v26)) E0 h) h fun v27 h =>
 (wg v23 false (wi F L (.load false 1 (.c v27)) E0 h) h fun v28 h =>
 (wg v23 false (wi F L (.bin .neq (.c v28) (.c (.str []))) E0 h) h fun v29 h =>
 (wi F L (.pick (.c v23) (.c (.bool true)) (.c v29)) E0 h fun v30 h =>
 (wg v30 false (wi F L (.mv (.c v18)) E0 h) h fun v32 h =>
 (wg v30 false (wi F L (.bin .lss (.c v32) (.c (.int .i64 0))) E0 h) h fun v33 h =>
 (wi F L (.pick (.c v30) (.c (.bool true)) (.c v33)) E0 h fun v34 h =>
 (wg v34 false (wi F L (.mv (.c v18)) E0 h) h fun v36 h =>
 (wg v34 false (wi F L (.bin .add (.c v36) (.c (.int .i64 3))) E0 h) h fun v37 h =>
 (wg v34 false (wi F L (.bin .rem (.c v37) (.c (.int .i64 7))) E0 h) h fun v38 h =>
 (wg v34 false (wi F L (.mv (.c a1)) E0 h) h fun v39 h =>
 (wg v34 false (wi F L (.bin .neq (.c v38) (.c v39)) E0 h) h fun v40 h =>
 (wi F L (.pick (.c v34) (.c (.bool true)) (.c v40)) E0 h fun v41 h =>
 (wb v41
 (∃ v, Qa h (Qd [(.int .i64 0), (.bool false)]) [.tmp 0, .tmp 1] = some v ∧ K v h)
 (QgZ L K a5 v18 h))))))))))))))))))))))
theorem Qw6 {L : QL} {K : QK} {a0 a1 a2 a3 a4 a5 : V} {h : Heap} (hp : QoA L K a0 a1 a2 a3 a4 a5 h) : Cf F L Qeb [a0, a1, a2, a3, a4, a5] h K :=
  wcallp QIE (of_decide_eq_true (by kernel_rfl)) (p := QoA L K a0 a1 a2 a3 a4 a5 h) (by kernel_rfl) hp
def QqW (L : QL) (K : QK) (v0 v1 : V) (h : Heap) : Prop :=
 (wi F L (.nilck (.c v0)) E0 h fun v17 h =>
 (wi F L (.faddr 0 (.c v17)) E0 h fun v18 h =>
 (wi F L (.load false 1 (.c v18)) E0 h fun v19 h =>
 (wi F L (.slstr (.c v19) none (some (.c v1))) E0 h fun v21 h =>
 (wi F L (.nilck (.c v0)) E0 h fun v24 h =>
 (wi F L (.faddr 0 (.c v24)) E0 h fun v25 h =>
 (wi F L (.load false 1 (.c v25)) E0 h fun v26 h =>
 (wi F L (.slstr (.c v26) (some (.c v1)) none) E0 h fun v28 h =>
 (wi F L (.nilck (.c v0)) E0 h fun v29 h =>
 (wi F L (.faddr 0 (.c v29)) E0 h fun v30 h =>
 (wi F L (.store 1 (.c v30) (.c v28)) E0 h fun _ h =>
 (∃ v, some v21 = some v ∧ K v h))))))))))))
def Qni (L : QL) (K : QK) (a0 a1 : V) (h : Heap) : Prop :=
 (wi F L (.nilck (.c a0)) E0 h fun v7 h =>
 (wi F L (.faddr 0 (.c v7)) E0 h fun v8 h =>
 (wi F L (.load false 1 (.c v8)) E0 h fun v9 h =>
 (wi F L (.len 0 (.c v9)) E0 h fun v10 h =>
 (wi F L (.bin .lss (.c v10) (.c a1)) E0 h fun v12 h =>
 (wb v12
 (wi F L (.nilck (.c a0)) E0 h fun v14 h =>
 (wi F L (.faddr 1 (.c v14)) E0 h fun v15 h =>
 (wi F L (.store 1 (.c v15) (.c (.bool false))) E0 h fun _ h =>
 (∃ v, some (.str []) = some v ∧ K v h))))
 (QqW L K a0 a1 h)))))))
theorem QH5 {L : QL} {K : QK} {a0 a1 : V} {h : Heap} (hp : Qni L K a0 a1 h) : Cf F L QcQ [a0, a1] h K :=
  wcallp QFr (of_decide_eq_true (by kernel_rfl)) (p := Qni L K a0 a1 h) (by kernel_rfl) hp
def QdQ (L : QL) (K : QK) (v2 : V) (h : Heap) : Prop :=
 (wi F L (.load true 256 (.c v2)) E0 h fun v20 h =>
 (wi F L (.store 256 (.c v2) (.c v20)) E0 h fun _ h =>
 (∃ v, Qa h (Qd [v2, (.bool true)]) [.cell 0 true 256, .tmp 1] = some v ∧ K v h)))
def Qfa (L : QL) (K : QK) (N0 : QN) (e : Env) (v4 : V) (h : Heap) : Prop :=
 (wi F L (.bin .add (.c v4) (.c (.int .i64 1))) E0 h fun v11 h =>
 (N0 (upd (upd (upd e 10 v4) 11 v11) 4 v11) h))
def Qe2 (L : QL) (K : QK) (N0 : QN) (e : Env) (v2 v4 v5 : V) (h : Heap) : Prop :=
 (wi F L (.ixaArr 256 1 (.c v2) (.c v5)) E0 h fun v19 h =>
 (wi F L (.store 1 (.c v19) (.c (.bool true))) E0 h fun _ h =>
 (Qfa L K N0 (upd (upd e 18 v5) 19 v19) v4 h)))
def QeL (L : QL) (K : QK) (N0 : QN) (e : Env) (v0 v2 v4 : V) (h : Heap) : Prop :=
 (wi F L (.ixStr (.c v0) (.c v4)) E0 h fun v14 h =>
 (wi F L (.bin .geq (.c v14) (.c (.int .u8 128))) E0 h fun v16 h =>
 (wb v16
 (wi F L (.load true 256 (.c v2)) E0 h fun v17 h =>
 (wi F L (.store 256 (.c v2) (.c v17)) E0 h fun _ h =>
 (∃ v, Qa h (Qd [v2, (.bool false)]) [.cell 0 true 256, .tmp 1] = some v ∧ K v h)))
 (Qe2 L K N0 (upd (upd (upd (upd (upd (upd e 12 v0) 13 v4) 14 v14) 5 v14) 15 v14) 16 v16) v2 v4 v14 h))))
def QvT (L : QL) (K : QK) : X → Env → Heap → Prop := (fun x => (seqX (fun e h => QdQ L K (e 2) h) (Qy QjW.results K)) (X.out 0 x))
def QsY : C :=
 (.seq (.seq (.region [⟨(some 6), none, .mv (.t 4)⟩, ⟨(some 7), none, .mv (.t 0)⟩, ⟨(some 8), none, .len 0 (.t 7)⟩, ⟨(some 9), none, .bin .lss (.t 6) (.t 8)⟩])
 (.cond (.t 9)
 .skip
 (.exit 0)))
 (.seq (.block 1 (.seq (.region [⟨(some 12), none, .mv (.t 0)⟩, ⟨(some 13), none, .mv (.t 4)⟩, ⟨(some 14), none, .ixStr (.t 12) (.t 13)⟩, ⟨(some 5), none, .mv (.t 14)⟩])
 (.seq (.seq (.region [⟨(some 15), none, .mv (.t 5)⟩, ⟨(some 16), none, .bin .geq (.t 15) (.c (.int .u8 128))⟩])
 (.cond (.t 16)
 (.seq (.region [⟨(some 17), none, .load true 256 (.t 2)⟩, ⟨none, none, .store 256 (.t 2) (.t 17)⟩, ⟨(some 3), none, .mv (.c (.bool false))⟩])
 .ret)
 .skip))
 (.region [⟨(some 18), none, .mv (.t 5)⟩, ⟨(some 19), none, .ixaArr 256 1 (.t 2) (.t 18)⟩, ⟨none, none, .store 1 (.t 19) (.c (.bool true))⟩]))))
 (.region [⟨(some 10), none, .mv (.t 4)⟩, ⟨(some 11), none, .bin .add (.t 10) (.c (.int .i64 1))⟩, ⟨(some 4), none, .mv (.t 11)⟩])))
def Qoc (L : QL) (K : QK) (N0 : QN) (e : Env) (h : Heap) : Prop :=
 (wi F L (.len 0 (.c (e 0))) E0 h fun v8 h =>
 (wi F L (.bin .lss (.c (e 4)) (.c v8)) E0 h fun v9 h =>
 (wb v9
 (QeL L K N0 (upd (upd (upd (upd e 6 (e 4)) 7 (e 0)) 8 v8) 9 v9) (e 0) (e 2) (e 4) h)
 (QdQ L K (e 2) h))))
theorem QJl {L : QL} {K : QK} (I : Nat → Env → Heap → Prop) (hr : ∀ n e h, I n e h → Qoc L K (fun e' h' => ∃ m, m < n ∧ I m e' h') e h) {n : Nat} {e : Env} {h : Heap} (hi : I n e h) : Wl F L QsY (QvT L K) e h :=
  wloopp (b := Qoc L K) I (fun _ _ _ => by kernel_rfl) hr hi
def Qp2 (L : QL) (K : QK) (a0 : V) (h : Heap) : Prop :=
 (wi F L (.boxz (List.replicate 256 (.bool false))) E0 h fun v2 h =>
 (Wl F L QsY (QvT L K) (upd (upd (upd (Qd [a0]) 2 v2) 3 (.bool false)) 4 (.int .i64 0)) h))
theorem QBw {L : QL} {K : QK} {a0 : V} {h : Heap} (hp : Qp2 L K a0 h) : Cf F L Qgs [a0] h K :=
  wcallp QG6 (of_decide_eq_true (by kernel_rfl)) (p := Qp2 L K a0 h) (by kernel_rfl) hp
def Qhh (L : QL) (K : QK) (v0 : V) (h : Heap) : Prop :=
 (∃ v, some v0 = some v ∧ K v h)
def Qkw (L : QL) (K : QK) (N0 : QN) (e : Env) (v0 : V) (h : Heap) : Prop :=
 (wi F L (.slstr (.c v0) (some (.c (.int .i64 1))) none) E0 h fun v14 h =>
 (N0 (upd (upd (upd e 13 v0) 14 v14) 0 v14) h))
def Qj5 (L : QL) (K : QK) (N0 : QN) (e : Env) (v0 v1 : V) (h : Heap) : Prop :=
 (wi F L (.ixStr (.c v0) (.c (.int .i64 0))) E0 h fun v10 h =>
 (wi F L (.call Qdj [(.c v1), (.c v10)]) E0 h fun v11 h =>
 (wi F L (.un .not (.c v11)) E0 h fun v12 h =>
 (wb v12
 (Qhh L K v0 h)
 (Qkw L K N0 (upd (upd (upd (upd (upd e 8 v1) 9 v0) 10 v10) 11 v11) 12 v12) v0 h)))))
def Qsb (L : QL) (K : QK) : X → Env → Heap → Prop := (fun x => (seqX (fun e h => Qhh L K (e 0) h) (Qy Qi0.results K)) (X.out 0 x))
def Qvd : C :=
 (.seq (.seq (.region [⟨(some 5), none, .mv (.t 0)⟩, ⟨(some 6), none, .len 0 (.t 5)⟩, ⟨(some 7), none, .bin .gtr (.t 6) (.c (.int .i64 0))⟩])
 (.cond (.t 7)
 .skip
 (.exit 0)))
 (.block 1 (.seq (.seq (.region [⟨(some 8), none, .mv (.t 1)⟩, ⟨(some 9), none, .mv (.t 0)⟩, ⟨(some 10), none, .ixStr (.t 9) (.c (.int .i64 0))⟩, ⟨(some 11), none, .call Qdj [(.t 8), (.t 10)]⟩, ⟨(some 12), none, .un .not (.t 11)⟩])
 (.cond (.t 12)
 (.exit 0)
 .skip))
 (.region [⟨(some 13), none, .mv (.t 0)⟩, ⟨(some 14), none, .slstr (.t 13) (some (.c (.int .i64 1))) none⟩, ⟨(some 0), none, .mv (.t 14)⟩]))))
def QqC (L : QL) (K : QK) (N0 : QN) (e : Env) (h : Heap) : Prop :=
 (wi F L (.len 0 (.c (e 0))) E0 h fun v6 h =>
 (wi F L (.bin .gtr (.c v6) (.c (.int .i64 0))) E0 h fun v7 h =>
 (wb v7
 (Qj5 L K N0 (upd (upd (upd e 5 (e 0)) 6 v6) 7 v7) (e 0) (e 1) h)
 (Qhh L K (e 0) h))))
theorem QAt {L : QL} {K : QK} (I : Nat → Env → Heap → Prop) (hr : ∀ n e h, I n e h → QqC L K (fun e' h' => ∃ m, m < n ∧ I m e' h') e h) {n : Nat} {e : Env} {h : Heap} (hi : I n e h) : Wl F L Qvd (Qsb L K) e h :=
  wloopp (b := QqC L K) I (fun _ _ _ => by kernel_rfl) hr hi
def Qpv (L : QL) (K : QK) (a0 a1 : V) (h : Heap) : Prop :=
 (Wl F L Qvd (Qsb L K) (upd (Qd [a0, a1]) 4 (.str [])) h)
theorem QCZ {L : QL} {K : QK} {a0 a1 : V} {h : Heap} (hp : Qpv L K a0 a1 h) : Cf F L Qfy [a0, a1] h K :=
  wcallp QCC (of_decide_eq_true (by kernel_rfl)) (p := Qpv L K a0 a1 h) (by kernel_rfl) hp
def Qho (L : QL) (K : QK) (v0 : V) (h : Heap) : Prop :=
 (∃ v, some v0 = some v ∧ K v h)
def QjO (L : QL) (K : QK) (N0 : QN) (e : Env) (v0 : V) (h : Heap) : Prop :=
 (wi F L (.len 0 (.c v0)) E0 h fun v18 h =>
 (wi F L (.bin .sub (.c v18) (.c (.int .i64 1))) E0 h fun v19 h =>
 (wi F L (.slstr (.c v0) none (some (.c v19))) E0 h fun v20 h =>
 (N0 (upd (upd (upd (upd (upd (upd e 16 v0) 17 v0) 18 v18) 19 v19) 20 v20) 0 v20) h))))
def QjN (L : QL) (K : QK) (N0 : QN) (e : Env) (v0 v1 : V) (h : Heap) : Prop :=
 (wi F L (.len 0 (.c v0)) E0 h fun v11 h =>
 (wi F L (.bin .sub (.c v11) (.c (.int .i64 1))) E0 h fun v12 h =>
 (wi F L (.ixStr (.c v0) (.c v12)) E0 h fun v13 h =>
 (wi F L (.call Qdj [(.c v1), (.c v13)]) E0 h fun v14 h =>
 (wi F L (.un .not (.c v14)) E0 h fun v15 h =>
 (wb v15
 (Qho L K v0 h)
 (QjO L K N0 (upd (upd (upd (upd (upd (upd (upd (upd e 8 v1) 9 v0) 10 v0) 11 v11) 12 v12) 13 v13) 14 v14) 15 v15) v0 h)))))))
def Qrz (L : QL) (K : QK) : X → Env → Heap → Prop := (fun x => (seqX (fun e h => Qho L K (e 0) h) (Qy Qki.results K)) (X.out 0 x))
def Qrp : C :=
 (.seq (.seq (.region [⟨(some 5), none, .mv (.t 0)⟩, ⟨(some 6), none, .len 0 (.t 5)⟩, ⟨(some 7), none, .bin .gtr (.t 6) (.c (.int .i64 0))⟩])
 (.cond (.t 7)
 .skip
 (.exit 0)))
 (.block 1 (.seq (.seq (.region [⟨(some 8), none, .mv (.t 1)⟩, ⟨(some 9), none, .mv (.t 0)⟩, ⟨(some 10), none, .mv (.t 0)⟩, ⟨(some 11), none, .len 0 (.t 10)⟩, ⟨(some 12), none, .bin .sub (.t 11) (.c (.int .i64 1))⟩, ⟨(some 13), none, .ixStr (.t 9) (.t 12)⟩, ⟨(some 14), none, .call Qdj [(.t 8), (.t 13)]⟩, ⟨(some 15), none, .un .not (.t 14)⟩])
 (.cond (.t 15)
 (.exit 0)
 .skip))
 (.region [⟨(some 16), none, .mv (.t 0)⟩, ⟨(some 17), none, .mv (.t 0)⟩, ⟨(some 18), none, .len 0 (.t 17)⟩, ⟨(some 19), none, .bin .sub (.t 18) (.c (.int .i64 1))⟩, ⟨(some 20), none, .slstr (.t 16) none (some (.t 19))⟩, ⟨(some 0), none, .mv (.t 20)⟩]))))
def Qmo (L : QL) (K : QK) (N0 : QN) (e : Env) (h : Heap) : Prop :=
 (wi F L (.len 0 (.c (e 0))) E0 h fun v6 h =>
 (wi F L (.bin .gtr (.c v6) (.c (.int .i64 0))) E0 h fun v7 h =>
 (wb v7
 (QjN L K N0 (upd (upd (upd e 5 (e 0)) 6 v6) 7 v7) (e 0) (e 1) h)
 (Qho L K (e 0) h))))
theorem QCX {L : QL} {K : QK} (I : Nat → Env → Heap → Prop) (hr : ∀ n e h, I n e h → Qmo L K (fun e' h' => ∃ m, m < n ∧ I m e' h') e h) {n : Nat} {e : Env} {h : Heap} (hi : I n e h) : Wl F L Qrp (Qrz L K) e h :=
  wloopp (b := Qmo L K) I (fun _ _ _ => by kernel_rfl) hr hi
def QoT (L : QL) (K : QK) (a0 a1 : V) (h : Heap) : Prop :=
 (Wl F L Qrp (Qrz L K) (upd (Qd [a0, a1]) 4 (.str [])) h)
theorem Qyi {L : QL} {K : QK} {a0 a1 : V} {h : Heap} (hp : QoT L K a0 a1 h) : Cf F L Qgx [a0, a1] h K :=
  wcallp QCW (of_decide_eq_true (by kernel_rfl)) (p := QoT L K a0 a1 h) (by kernel_rfl) hp
def Qbp (L : QL) (K : QK) (v0 v4 v5 : V) (h : Heap) : Prop :=
 (wi F L (.len 0 (.c v0)) E0 h fun v53 h =>
 (wi F L (.bin .sub (.c v53) (.c (.int .i64 1))) E0 h fun v54 h =>
 (wi F L (.bin .eql (.c v5) (.c v54)) E0 h fun v55 h =>
 (∃ v, Qa h (Qd [v4, v55]) [.tmp 0, .tmp 1] = some v ∧ K v h))))
def QbN (L : QL) (K : QK) (N0 : QN) (e : Env) (v0 v4 v5 : V) (h : Heap) : Prop :=
 (wi F L (.bin .add (.c v5) (.c (.int .i64 1))) E0 h fun v45 h =>
 (wi F L (.slstr (.c v0) (some (.c v5)) (some (.c v45))) E0 h fun v46 h =>
 (wi F L (.bin .add (.c v4) (.c v46)) E0 h fun v47 h =>
 (wi F L (.bin .add (.c v5) (.c (.int .i64 1))) E0 h fun v49 h =>
 (N0 (upd (upd (upd (upd (upd (upd (upd (upd (upd (upd (upd e 41 v4) 42 v0) 43 v5) 44 v5) 45 v45) 46 v46) 47 v47) 4 v47) 48 v5) 49 v49) 5 v49) h)))))
def Qbx (L : QL) (K : QK) (N0 : QN) (e : Env) (v0 v4 v5 : V) (h : Heap) : Prop :=
 (wi F L (.len 0 (.c v0)) E0 h fun v32 h =>
 (wi F L (.bin .geq (.c v5) (.c v32)) E0 h fun v33 h =>
 (wg v33 false (wi F L (.mv (.c v0)) E0 h) h fun v35 h =>
 (wg v33 false (wi F L (.mv (.c v5)) E0 h) h fun v36 h =>
 (wg v33 false (wi F L (.ixStr (.c v35) (.c v36)) E0 h) h fun v37 h =>
 (wg v33 false (wi F L (.call Qfj [(.c v37)]) E0 h) h fun v38 h =>
 (wg v33 false (wi F L (.un .not (.c v38)) E0 h) h fun v39 h =>
 (wi F L (.pick (.c v33) (.c (.bool true)) (.c v39)) E0 h fun v40 h =>
 (wb v40
 (∃ v, Qa h (Qd [(.str []), (.bool false)]) [.tmp 0, .tmp 1] = some v ∧ K v h)
 (QbN L K N0 (upd (upd (upd (upd (upd (upd (upd (upd (upd (upd (upd e 30 v5) 31 v0) 32 v32) 33 v33) 34 v33) 35 v35) 36 v36) 37 v37) 38 v38) 39 v39) 40 v40) v0 v4 v5 h))))))))))
def Qbz (L : QL) (K : QK) (N0 : QN) (e : Env) (v0 v4 v5 : V) (h : Heap) : Prop :=
 (wi F L (.ixStr (.c v0) (.c v5)) E0 h fun v26 h =>
 (wi F L (.bin .eql (.c v26) (.c (.int .u8 92))) E0 h fun v27 h =>
 (wb v27
 (wi F L (.bin .add (.c v5) (.c (.int .i64 1))) E0 h fun v29 h =>
 (Qbx L K N0 (upd (upd (upd (upd (upd (upd (upd e 24 v0) 25 v5) 26 v26) 27 v27) 28 v5) 29 v29) 5 v29) v0 v4 v29 h))
 (Qbx L K N0 (upd (upd (upd (upd e 24 v0) 25 v5) 26 v26) 27 v27) v0 v4 v5 h))))
def QkL (L : QL) (K : QK) : X → Env → Heap → Prop := (fun x => (seqX (fun e h => Qbp L K (e 0) (e 4) (e 5) h) (Qy Qjo.results K)) (X.out 0 x))
def Qqa : C :=
 (.seq (.seq (.region [⟨(some 14), none, .mv (.t 5)⟩, ⟨(some 15), none, .mv (.t 0)⟩, ⟨(some 16), none, .len 0 (.t 15)⟩, ⟨(some 17), none, .bin .lss (.t 14) (.t 16)⟩, ⟨(some 18), none, .mv (.t 17)⟩, ⟨(some 19), (some (18, true)), .mv (.t 0)⟩, ⟨(some 20), (some (18, true)), .mv (.t 5)⟩, ⟨(some 21), (some (18, true)), .ixStr (.t 19) (.t 20)⟩, ⟨(some 22), (some (18, true)), .bin .neq (.t 21) (.c (.int .u8 34))⟩, ⟨(some 23), none, .pick (.t 18) (.t 22) (.c (.bool false))⟩])
 (.cond (.t 23)
 .skip
 (.exit 0)))
 (.block 1 (.seq (.seq (.region [⟨(some 24), none, .mv (.t 0)⟩, ⟨(some 25), none, .mv (.t 5)⟩, ⟨(some 26), none, .ixStr (.t 24) (.t 25)⟩, ⟨(some 27), none, .bin .eql (.t 26) (.c (.int .u8 92))⟩])
 (.cond (.t 27)
 (.region [⟨(some 28), none, .mv (.t 5)⟩, ⟨(some 29), none, .bin .add (.t 28) (.c (.int .i64 1))⟩, ⟨(some 5), none, .mv (.t 29)⟩])
 .skip))
 (.seq (.seq (.region [⟨(some 30), none, .mv (.t 5)⟩, ⟨(some 31), none, .mv (.t 0)⟩, ⟨(some 32), none, .len 0 (.t 31)⟩, ⟨(some 33), none, .bin .geq (.t 30) (.t 32)⟩, ⟨(some 34), none, .mv (.t 33)⟩, ⟨(some 35), (some (34, false)), .mv (.t 0)⟩, ⟨(some 36), (some (34, false)), .mv (.t 5)⟩, ⟨(some 37), (some (34, false)), .ixStr (.t 35) (.t 36)⟩, ⟨(some 38), (some (34, false)), .call Qfj [(.t 37)]⟩, ⟨(some 39), (some (34, false)), .un .not (.t 38)⟩, ⟨(some 40), none, .pick (.t 34) (.c (.bool true)) (.t 39)⟩])
 (.cond (.t 40)
 (.seq (.region [⟨(some 2), none, .mv (.c (.str []))⟩, ⟨(some 3), none, .mv (.c (.bool false))⟩])
 .ret)
 .skip))
 (.seq (.region [⟨(some 41), none, .mv (.t 4)⟩, ⟨(some 42), none, .mv (.t 0)⟩, ⟨(some 43), none, .mv (.t 5)⟩, ⟨(some 44), none, .mv (.t 5)⟩, ⟨(some 45), none, .bin .add (.t 44) (.c (.int .i64 1))⟩, ⟨(some 46), none, .slstr (.t 42) (some (.t 43)) (some (.t 45))⟩, ⟨(some 47), none, .bin .add (.t 41) (.t 46)⟩, ⟨(some 4), none, .mv (.t 47)⟩])
 (.region [⟨(some 48), none, .mv (.t 5)⟩, ⟨(some 49), none, .bin .add (.t 48) (.c (.int .i64 1))⟩, ⟨(some 5), none, .mv (.t 49)⟩]))))))
def Qmn (L : QL) (K : QK) (N0 : QN) (e : Env) (h : Heap) : Prop :=
 (wi F L (.len 0 (.c (e 0))) E0 h fun v16 h =>
 (wi F L (.bin .lss (.c (e 5)) (.c v16)) E0 h fun v17 h =>
 (wg v17 true (wi F L (.mv (.c (e 0))) E0 h) h fun v19 h =>
 (wg v17 true (wi F L (.mv (.c (e 5))) E0 h) h fun v20 h =>
 (wg v17 true (wi F L (.ixStr (.c v19) (.c v20)) E0 h) h fun v21 h =>
 (wg v17 true (wi F L (.bin .neq (.c v21) (.c (.int .u8 34))) E0 h) h fun v22 h =>
 (wi F L (.pick (.c v17) (.c v22) (.c (.bool false))) E0 h fun v23 h =>
 (wb v23
 (Qbz L K N0 (upd (upd (upd (upd (upd (upd (upd (upd (upd (upd e 14 (e 5)) 15 (e 0)) 16 v16) 17 v17) 18 v17) 19 v19) 20 v20) 21 v21) 22 v22) 23 v23) (e 0) (e 4) (e 5) h)
 (Qbp L K (e 0) (e 4) (e 5) h)))))))))
theorem QBS {L : QL} {K : QK} (I : Nat → Env → Heap → Prop) (hr : ∀ n e h, I n e h → Qmn L K (fun e' h' => ∃ m, m < n ∧ I m e' h') e h) {n : Nat} {e : Env} {h : Heap} (hi : I n e h) : Wl F L Qqa (QkL L K) e h :=
  wloopp (b := Qmn L K) I (fun _ _ _ => by kernel_rfl) hr hi
def QbF (L : QL) (K : QK) (e : Env) (h : Heap) : Prop :=
 (Wl F L Qqa (QkL L K) (upd (upd e 4 (.str [])) 5 (.int .i64 1)) h)
def Qlh (L : QL) (K : QK) (a0 : V) (h : Heap) : Prop :=
 (wi F L (.len 0 (.c a0)) E0 h fun v7 h =>
 (wi F L (.bin .lss (.c v7) (.c (.int .i64 2))) E0 h fun v8 h =>
 (wg v8 false (wi F L (.mv (.c a0)) E0 h) h fun v10 h =>
 (wg v8 false (wi F L (.ixStr (.c v10) (.c (.int .i64 0))) E0 h) h fun v11 h =>
 (wg v8 false (wi F L (.bin .neq (.c v11) (.c (.int .u8 34))) E0 h) h fun v12 h =>
 (wi F L (.pick (.c v8) (.c (.bool true)) (.c v12)) E0 h fun v13 h =>
 (wb v13
 (∃ v, Qa h (Qd [(.str []), (.bool false)]) [.tmp 0, .tmp 1] = some v ∧ K v h)
 (QbF L K (upd (upd (upd (upd (upd (upd (upd (upd (upd (upd (Qd [a0]) 2 (.str [])) 3 (.bool false)) 6 a0) 7 v7) 8 v8) 9 v8) 10 v10) 11 v11) 12 v12) 13 v13)  h))))))))
theorem QJn {L : QL} {K : QK} {a0 : V} {h : Heap} (hp : Qlh L K a0 h) : Cf F L Qfp [a0] h K :=
  wcallp QEF (of_decide_eq_true (by kernel_rfl)) (p := Qlh L K a0 h) (by kernel_rfl) hp
def Qb0 (L : QL) (K : QK) (v7 : V) (h : Heap) : Prop :=
 (∃ v, some v7 = some v ∧ K v h)
def Qcc (L : QL) (K : QK) (N0 : QN) (e : Env) (v9 : V) (h : Heap) : Prop :=
 (wi F L (.bin .add (.c v9) (.c (.int .i64 1))) E0 h fun v50 h =>
 (N0 (upd (upd (upd e 49 v9) 50 v50) 9 v50) h))
def Qct (L : QL) (K : QK) (N0 : QN) (e : Env) (v0 v7 v9 : V) (h : Heap) : Prop :=
 (wi F L (.call Qei [(.c v0), (.c v9)]) E0 h fun v54 h =>
 (wi F L (.bin .add (.c v7) (.c v54)) E0 h fun v55 h =>
 (Qcc L K N0 (upd (upd (upd (upd (upd (upd e 51 v7) 52 v0) 53 v9) 54 v54) 55 v55) 7 v55) v9 h)))
def QsR (L : QL) (K : QK) : X → Env → Heap → Prop := (fun x => (seqX (fun e h => Qb0 L K (e 7) h) (Qy QhV.results K)) (X.out 2 x))
def Qsg : C :=
 (.seq (.seq (.region [⟨(some 46), none, .mv (.t 9)⟩, ⟨(some 47), none, .mv (.t 1)⟩, ⟨(some 48), none, .bin .lss (.t 46) (.t 47)⟩])
 (.cond (.t 48)
 .skip
 (.exit 2)))
 (.seq (.block 3 (.region [⟨(some 51), none, .mv (.t 7)⟩, ⟨(some 52), none, .mv (.t 0)⟩, ⟨(some 53), none, .mv (.t 9)⟩, ⟨(some 54), none, .call Qei [(.t 52), (.t 53)]⟩, ⟨(some 55), none, .bin .add (.t 51) (.t 54)⟩, ⟨(some 7), none, .mv (.t 55)⟩]))
 (.region [⟨(some 49), none, .mv (.t 9)⟩, ⟨(some 50), none, .bin .add (.t 49) (.c (.int .i64 1))⟩, ⟨(some 9), none, .mv (.t 50)⟩])))
def Qox (L : QL) (K : QK) (N0 : QN) (e : Env) (h : Heap) : Prop :=
 (wi F L (.bin .lss (.c (e 9)) (.c (e 1))) E0 h fun v48 h =>
 (wb v48
 (Qct L K N0 (upd (upd (upd e 46 (e 9)) 47 (e 1)) 48 v48) (e 0) (e 7) (e 9) h)
 (Qb0 L K (e 7) h)))
theorem Qzb {L : QL} {K : QK} (I : Nat → Env → Heap → Prop) (hr : ∀ n e h, I n e h → Qox L K (fun e' h' => ∃ m, m < n ∧ I m e' h') e h) {n : Nat} {e : Env} {h : Heap} (hi : I n e h) : Wl F L Qsg (QsR L K) e h :=
  wloopp (b := Qox L K) I (fun _ _ _ => by kernel_rfl) hr hi
def Qbm (L : QL) (K : QK) (e : Env) (h : Heap) : Prop :=
 (Wl F L Qsg (QsR L K) (upd e 9 (.int .i64 1)) h)
def Qcq (L : QL) (K : QK) (N0 : QN) (e : Env) (v8 : V) (h : Heap) : Prop :=
 (wi F L (.bin .add (.c v8) (.c (.int .i64 1))) E0 h fun v41 h =>
 (N0 (upd (upd (upd e 40 v8) 41 v41) 8 v41) h))
def Qcb (L : QL) (K : QK) (N0 : QN) (e : Env) (v7 v8 : V) (h : Heap) : Prop :=
 (wi F L (.call QeA [(.c v8)]) E0 h fun v44 h =>
 (wi F L (.bin .add (.c v7) (.c v44)) E0 h fun v45 h =>
 (Qcq L K N0 (upd (upd (upd (upd (upd e 42 v7) 43 v8) 44 v44) 45 v45) 7 v45) v8 h)))
def Qua (L : QL) (K : QK) : X → Env → Heap → Prop := (fun x => (seqX (fun e h => Qbm L K e  h) (Qy QhV.results K)) (X.out 0 x))
def QuB : C :=
 (.seq (.seq (.region [⟨(some 37), none, .mv (.t 8)⟩, ⟨(some 38), none, .mv (.t 0)⟩, ⟨(some 39), none, .bin .lss (.t 37) (.t 38)⟩])
 (.cond (.t 39)
 .skip
 (.exit 0)))
 (.seq (.block 1 (.region [⟨(some 42), none, .mv (.t 7)⟩, ⟨(some 43), none, .mv (.t 8)⟩, ⟨(some 44), none, .call QeA [(.t 43)]⟩, ⟨(some 45), none, .bin .add (.t 42) (.t 44)⟩, ⟨(some 7), none, .mv (.t 45)⟩]))
 (.region [⟨(some 40), none, .mv (.t 8)⟩, ⟨(some 41), none, .bin .add (.t 40) (.c (.int .i64 1))⟩, ⟨(some 8), none, .mv (.t 41)⟩])))
def Qme (L : QL) (K : QK) (N0 : QN) (e : Env) (h : Heap) : Prop :=
 (wi F L (.bin .lss (.c (e 8)) (.c (e 0))) E0 h fun v39 h =>
 (wb v39
 (Qcb L K N0 (upd (upd (upd e 37 (e 8)) 38 (e 0)) 39 v39) (e 7) (e 8) h)
 (Qbm L K (upd (upd (upd e 37 (e 8)) 38 (e 0)) 39 v39)  h)))
theorem QHp {L : QL} {K : QK} (I : Nat → Env → Heap → Prop) (hr : ∀ n e h, I n e h → Qme L K (fun e' h' => ∃ m, m < n ∧ I m e' h') e h) {n : Nat} {e : Env} {h : Heap} (hi : I n e h) : Wl F L QuB (Qua L K) e h :=
  wloopp (b := Qme L K) I (fun _ _ _ => by kernel_rfl) hr hi
def QbT (L : QL) (K : QK) (e : Env) (v2 : V) (h : Heap) : Prop :=
 (wi F L (.bin .sub (.c v2) (.c (.int .i64 1))) E0 h fun v36 h =>
 (Wl F L QuB (Qua L K) (upd (upd (upd (upd e 35 v2) 36 v36) 7 v36) 8 (.int .i64 1970)) h))
def QkR (L : QL) (K : QK) (a0 a1 a2 : V) (h : Heap) : Prop :=
 (wi F L (.bin .lss (.c a0) (.c (.int .i64 1970))) E0 h fun v11 h =>
 (wg v11 false (wi F L (.mv (.c a0)) E0 h) h fun v13 h =>
 (wg v11 false (wi F L (.bin .gtr (.c v13) (.c (.int .i64 9999))) E0 h) h fun v14 h =>
 (wi F L (.pick (.c v11) (.c (.bool true)) (.c v14)) E0 h fun v15 h =>
 (wg v15 false (wi F L (.mv (.c a1)) E0 h) h fun v17 h =>
 (wg v15 false (wi F L (.bin .lss (.c v17) (.c (.int .i64 1))) E0 h) h fun v18 h =>
 (wi F L (.pick (.c v15) (.c (.bool true)) (.c v18)) E0 h fun v19 h =>
 (wg v19 false (wi F L (.mv (.c a1)) E0 h) h fun v21 h =>
 (wg v19 false (wi F L (.bin .gtr (.c v21) (.c (.int .i64 12))) E0 h) h fun v22 h =>
 (wi F L (.pick (.c v19) (.c (.bool true)) (.c v22)) E0 h fun v23 h =>
 (wg v23 false (wi F L (.mv (.c a2)) E0 h) h fun v25 h =>
 (wg v23 false (wi F L (.bin .lss (.c v25) (.c (.int .i64 1))) E0 h) h fun v26 h =>
 (wi F L (.pick (.c v23) (.c (.bool true)) (.c v26)) E0 h fun v27 h =>
 (wg v27 false (wi F L (.mv (.c a2)) E0 h) h fun v29 h =>
 (wg v27 false (wi F L (.mv (.c a0)) E0 h) h fun v30 h =>
 (wg v27 false (wi F L (.mv (.c a1)) E0 h) h fun v31 h =>
 (wg v27 false (wi F L (.call Qei [(.c v30), (.c v31)]) E0 h) h fun v32 h =>
 (wg v27 false (wi F L (.bin .gtr (.c v29) (.c v32)) E0 h) h fun v33 h =>
 (wi F L (.pick (.c v27) (.c (.bool true)) (.c v33)) E0 h fun v34 h =>
 (wb v34
 (∃ v, some (.int .i64 (-1)) = some v ∧ K v h)
 (QbT L K (upd (upd (upd (upd (upd (upd (upd (upd (upd (upd (upd (upd (upd (upd (upd (upd (upd (upd (upd (upd (upd (upd (upd (upd (upd (upd (Qd [a0, a1, a2]) 6 (.int .i64 0)) 10 a0) 11 v11) 12 v11) 13 v13) 14 v14) 15 v15) 16 v15) 17 v17) 18 v18) 19 v19) 20 v19) 21 v21) 22 v22) 23 v23) 24 v23) 25 v25) 26 v26) 27 v27) 28 v27) 29 v29) 30 v30) 31 v31) 32 v32) 33 v33) 34 v34) a2 h)))))))))))))))))))))
theorem Qyl {L : QL} {K : QK} {a0 a1 a2 : V} {h : Heap} (hp : QkR L K a0 a1 a2 h) : Cf F L Qf3 [a0, a1, a2] h K :=
  wcallp QEc (of_decide_eq_true (by kernel_rfl)) (p := QkR L K a0 a1 a2 h) (by kernel_rfl) hp
def Qe8 (L : QL) (K : QK) (h : Heap) : Prop :=
 (∃ v, some (.bool false) = some v ∧ K v h)
def QaB (L : QL) (K : QK) (v26 : V) (h : Heap) : Prop :=
 (wb v26
 (∃ v, some (.bool true) = some v ∧ K v h)
 (Qe8 L K  h))
def Qe5 (L : QL) (K : QK) (v0 : V) (h : Heap) : Prop :=
 (wi F L (.bin .eql (.c v0) (.c (.int .u8 33))) E0 h fun v27 h =>
 (wb v27
 (QaB L K v27 h)
 (wi F L (.bin .eql (.c v0) (.c (.int .u8 35))) E0 h fun v28 h =>
 (wb v28
 (QaB L K v28 h)
 (wi F L (.bin .eql (.c v0) (.c (.int .u8 36))) E0 h fun v29 h =>
 (wb v29
 (QaB L K v29 h)
 (wi F L (.bin .eql (.c v0) (.c (.int .u8 37))) E0 h fun v30 h =>
 (wb v30
 (QaB L K v30 h)
 (wi F L (.bin .eql (.c v0) (.c (.int .u8 38))) E0 h fun v31 h =>
 (wb v31
 (QaB L K v31 h)
 (wi F L (.bin .eql (.c v0) (.c (.int .u8 39))) E0 h fun v32 h =>
 (wb v32
 (QaB L K v32 h)
 (wi F L (.bin .eql (.c v0) (.c (.int .u8 42))) E0 h fun v33 h =>
 (wb v33
 (QaB L K v33 h)
 (wi F L (.bin .eql (.c v0) (.c (.int .u8 43))) E0 h fun v34 h =>
 (wb v34
 (QaB L K v34 h)
 (wi F L (.bin .eql (.c v0) (.c (.int .u8 45))) E0 h fun v35 h =>
 (wb v35
 (QaB L K v35 h)
 (wi F L (.bin .eql (.c v0) (.c (.int .u8 46))) E0 h fun v36 h =>
 (wb v36
 (QaB L K v36 h)
 (wi F L (.bin .eql (.c v0) (.c (.int .u8 94))) E0 h fun v37 h =>
 (wb v37
 (QaB L K v37 h)
 (wi F L (.bin .eql (.c v0) (.c (.int .u8 95))) E0 h fun v38 h =>
 (wb v38
 (QaB L K v38 h)
 (wi F L (.bin .eql (.c v0) (.c (.int .u8 96))) E0 h fun v39 h =>
 (wb v39
 (QaB L K v39 h)
 (wi F L (.bin .eql (.c v0) (.c (.int .u8 124))) E0 h fun v40 h =>
 (wb v40
 (QaB L K v40 h)
 (wi F L (.bin .eql (.c v0) (.c (.int .u8 126))) E0 h fun v41 h =>
 (QaB L K v41 h))))))))))))))))))))))))))))))
def Qpo (L : QL) (K : QK) (a0 : V) (h : Heap) : Prop :=
 (wi F L (.bin .geq (.c a0) (.c (.int .u8 97))) E0 h fun v4 h =>
 (wg v4 true (wi F L (.mv (.c a0)) E0 h) h fun v6 h =>
 (wg v4 true (wi F L (.bin .leq (.c v6) (.c (.int .u8 122))) E0 h) h fun v7 h =>
 (wi F L (.pick (.c v4) (.c v7) (.c (.bool false))) E0 h fun v8 h =>
 (wg v8 false (wi F L (.mv (.c a0)) E0 h) h fun v10 h =>
 (wg v8 false (wi F L (.bin .geq (.c v10) (.c (.int .u8 65))) E0 h) h fun v11 h =>
 (wg v8 false (wi F L (.mv (.c v11)) E0 h) h fun v12 h =>
 (wg v12 true (wi F L (.mv (.c a0)) E0 h) h fun v13 h =>
 (wg v12 true (wi F L (.bin .leq (.c v13) (.c (.int .u8 90))) E0 h) h fun v14 h =>
 (wg v8 false (wi F L (.pick (.c v12) (.c v14) (.c (.bool false))) E0 h) h fun v15 h =>
 (wi F L (.pick (.c v8) (.c (.bool true)) (.c v15)) E0 h fun v16 h =>
 (wg v16 false (wi F L (.mv (.c a0)) E0 h) h fun v18 h =>
 (wg v16 false (wi F L (.bin .geq (.c v18) (.c (.int .u8 48))) E0 h) h fun v19 h =>
 (wg v16 false (wi F L (.mv (.c v19)) E0 h) h fun v20 h =>
 (wg v20 true (wi F L (.mv (.c a0)) E0 h) h fun v21 h =>
 (wg v20 true (wi F L (.bin .leq (.c v21) (.c (.int .u8 57))) E0 h) h fun v22 h =>
 (wg v16 false (wi F L (.pick (.c v20) (.c v22) (.c (.bool false))) E0 h) h fun v23 h =>
 (wi F L (.pick (.c v16) (.c (.bool true)) (.c v23)) E0 h fun v24 h =>
 (wb v24
 (∃ v, some (.bool true) = some v ∧ K v h)
 (Qe5 L K a0 h))))))))))))))))))))
theorem QGY {L : QL} {K : QK} {a0 : V} {h : Heap} (hp : Qpo L K a0 h) : Cf F L Qeq [a0] h K :=
  wcallp QGf (of_decide_eq_true (by kernel_rfl)) (p := Qpo L K a0 h) (by kernel_rfl) hp
def QoH (L : QL) (K : QK) (h : Heap) : Prop :=
 (wi F L (.boxz [(.int .u8 0), (.int .u8 0), (.int .u8 0), (.int .u8 0), (.int .u8 0), (.int .u8 0), (.int .u8 0), (.int .u8 0), (.int .u8 0), (.int .u8 0), (.int .u8 0), (.int .u8 0), (.int .u8 0), (.int .u8 0), (.int .u8 0)]) E0 h fun v0 h =>
 (wi F L (.build [(.int .u8 0), (.int .u8 0), (.int .u8 0), (.int .u8 0), (.int .u8 0), (.int .u8 0), (.int .u8 0), (.int .u8 0), (.int .u8 0), (.int .u8 0), (.int .u8 0), (.int .u8 0), (.int .u8 0), (.int .u8 0), (.int .u8 0)] [(0, 1, (.c (.int .u8 33))), (1, 1, (.c (.int .u8 35))), (2, 1, (.c (.int .u8 36))), (3, 1, (.c (.int .u8 37))), (4, 1, (.c (.int .u8 38))), (5, 1, (.c (.int .u8 39))), (6, 1, (.c (.int .u8 42))), (7, 1, (.c (.int .u8 43))), (8, 1, (.c (.int .u8 45))), (9, 1, (.c (.int .u8 46))), (10, 1, (.c (.int .u8 94))), (11, 1, (.c (.int .u8 95))), (12, 1, (.c (.int .u8 96))), (13, 1, (.c (.int .u8 124))), (14, 1, (.c (.int .u8 126)))]) E0 h fun v1 h =>
 (wi F L (.store 15 (.c v0) (.c v1)) E0 h fun _ h =>
 (∃ v, Qa h (Qd [v0]) [.cell 0 true 15] = some v ∧ K v h))))
theorem QDz {L : QL} {K : QK} {h : Heap} (hp : QoH L K  h) : Cf F L QfE [] h K :=
  wcallp QFK (of_decide_eq_true (by kernel_rfl)) (p := QoH L K  h) (by kernel_rfl) hp
def Qkc (L : QL) (K : QK) (v0 : V) (h : Heap) : Prop :=
 (∃ v, Qa h (Qd [v0, (.str []), (.bool false)]) [.tmp 0, .tmp 1, .tmp 2] = some v ∧ K v h)
def Qqr (L : QL) (K : QK) (a0 a1 : V) (h : Heap) : Prop :=
 (wi F L (.call Qpl [(.c a0), (.c a1)]) E0 h fun v10 h =>
 (wi F L (.bin .geq (.c v10) (.c (.int .i64 0))) E0 h fun v12 h =>
 (wb v12
 (wi F L (.slstr (.c a0) none (some (.c v10))) E0 h fun v15 h' => Ext h h' ∧
 (wi F L (.len 0 (.c a1)) E0 h' fun v19 h => Ext h' h ∧
 (wi F L (.bin .add (.c v10) (.c v19)) E0 h fun v20 h' => Ext h h' ∧
 (wi F L (.slstr (.c a0) (some (.c v20)) none) E0 h' fun v21 h => Ext h' h ∧
 (∃ v, Qa h (Qd [v15, v21, (.bool true)]) [.tmp 0, .tmp 1, .tmp 2] = some v ∧ K v h)))))
 (Qkc L K a0 h))))
theorem QEI {L : QL} {K : QK} {a0 a1 : V} {h : Heap} (hp : Qqr L K a0 a1 h) : Cf F L QfG [a0, a1] h K :=
  wcallp QzT (of_decide_eq_true (by kernel_rfl)) (p := Qqr L K a0 a1 h) (by kernel_rfl) hp
def Qq0 (L : QL) (K : QK) (h : Heap) : Prop :=
 (wi F L (.boxz [(.str []), (.str []), (.str []), (.str []), (.str []), (.str []), (.str [])]) E0 h fun v0 h =>
 (wi F L (.build [(.str []), (.str []), (.str []), (.str []), (.str []), (.str []), (.str [])] [(0, 1, (.c (.str [77, 111, 110, 100, 97, 121]))), (1, 1, (.c (.str [84, 117, 101, 115, 100, 97, 121]))), (2, 1, (.c (.str [87, 101, 100, 110, 101, 115, 100, 97, 121]))), (3, 1, (.c (.str [84, 104, 117, 114, 115, 100, 97, 121]))), (4, 1, (.c (.str [70, 114, 105, 100, 97, 121]))), (5, 1, (.c (.str [83, 97, 116, 117, 114, 100, 97, 121]))), (6, 1, (.c (.str [83, 117, 110, 100, 97, 121])))]) E0 h fun v1 h =>
 (wi F L (.store 7 (.c v0) (.c v1)) E0 h fun _ h =>
 (∃ v, Qa h (Qd [v0]) [.cell 0 true 7] = some v ∧ K v h))))
theorem QHI {L : QL} {K : QK} {h : Heap} (hp : Qq0 L K  h) : Cf F L QfT [] h K :=
  wcallp QIo (of_decide_eq_true (by kernel_rfl)) (p := Qq0 L K  h) (by kernel_rfl) hp
def QhL (L : QL) (K : QK) (v0 v2 : V) (h : Heap) : Prop :=
 (wi F L (.load false 1 (.c v2)) E0 h fun v13 h =>
 (wi F L (.bin .mul (.c (.int .i64 10)) (.c v13)) E0 h fun v14 h =>
 (wi F L (.bin .sub (.c v0) (.c (.int .u8 48))) E0 h fun v16 h =>
 (wi F L (.toInt .i64 (.c v16)) E0 h fun v17 h =>
 (wi F L (.bin .add (.c v14) (.c v17)) E0 h fun v18 h =>
 (wi F L (.store 1 (.c v2) (.c v18)) E0 h fun _ h =>
 (∃ v, Qa h (Qd []) [] = some v ∧ K v h)))))))
def QkW (L : QL) (K : QK) (a0 a1 a2 : V) (h : Heap) : Prop :=
 (wi F L (.bin .lss (.c a0) (.c (.int .u8 48))) E0 h fun v5 h =>
 (wg v5 false (wi F L (.mv (.c a0)) E0 h) h fun v7 h =>
 (wg v5 false (wi F L (.bin .gtr (.c v7) (.c (.int .u8 57))) E0 h) h fun v8 h =>
 (wi F L (.pick (.c v5) (.c (.bool true)) (.c v8)) E0 h fun v9 h =>
 (wb v9
 (wi F L (.load false 1 (.c a1)) E0 h fun v10 h =>
 (wi F L (.nilck (.c v10)) E0 h fun v11 h =>
 (wi F L (.faddr 1 (.c v11)) E0 h fun v12 h =>
 (wi F L (.store 1 (.c v12) (.c (.bool false))) E0 h fun _ h =>
 (QhL L K a0 a2 h)))))
 (QhL L K a0 a2 h))))))
theorem QJZ {L : QL} {K : QK} {a0 a1 a2 : V} {h : Heap} (hp : QkW L K a0 a1 a2 h) : Cf F L Qd0 [a0, a1, a2] h K :=
  wcallp QGv (of_decide_eq_true (by kernel_rfl)) (p := QkW L K a0 a1 a2 h) (by kernel_rfl) hp
def QnC (L : QL) (K : QK) (h : Heap) : Prop :=
 (wi F L (.boxz [(.str []), (.str []), (.str []), (.str []), (.str []), (.str []), (.str []), (.str []), (.str []), (.str []), (.str []), (.str [])]) E0 h fun v0 h =>
 (wi F L (.build [(.str []), (.str []), (.str []), (.str []), (.str []), (.str []), (.str []), (.str []), (.str []), (.str []), (.str []), (.str [])] [(0, 1, (.c (.str [74, 97, 110]))), (1, 1, (.c (.str [70, 101, 98]))), (2, 1, (.c (.str [77, 97, 114]))), (3, 1, (.c (.str [65, 112, 114]))), (4, 1, (.c (.str [77, 97, 121]))), (5, 1, (.c (.str [74, 117, 110]))), (6, 1, (.c (.str [74, 117, 108]))), (7, 1, (.c (.str [65, 117, 103]))), (8, 1, (.c (.str [83, 101, 112]))), (9, 1, (.c (.str [79, 99, 116]))), (10, 1, (.c (.str [78, 111, 118]))), (11, 1, (.c (.str [68, 101, 99])))]) E0 h fun v1 h =>
 (wi F L (.store 12 (.c v0) (.c v1)) E0 h fun _ h =>
 (∃ v, Qa h (Qd [v0]) [.cell 0 true 12] = some v ∧ K v h))))
theorem QFq {L : QL} {K : QK} {h : Heap} (hp : QnC L K  h) : Cf F L Qf5 [] h K :=
  wcallp QEj (of_decide_eq_true (by kernel_rfl)) (p := QnC L K  h) (by kernel_rfl) hp
def Qhx (L : QL) (K : QK) (v11 : V) (h : Heap) : Prop :=
 (∃ v, some v11 = some v ∧ K v h)
def QeO (L : QL) (K : QK) (v0 v1 v2 v7 v8 : V) (h : Heap) : Prop :=
 (wi F L (.bin .quo (.c v7) (.c (.int .i64 400))) E0 h fun v47 h =>
 (wi F L (.bin .rem (.c v7) (.c (.int .i64 400))) E0 h fun v49 h =>
 (wi F L (.bin .mul (.c v47) (.c (.int .i64 146097))) E0 h fun v51 h =>
 (wi F L (.bin .mul (.c v49) (.c (.int .i64 365))) E0 h fun v53 h =>
 (wi F L (.bin .add (.c v51) (.c v53)) E0 h fun v54 h =>
 (wi F L (.bin .quo (.c v49) (.c (.int .i64 4))) E0 h fun v56 h =>
 (wi F L (.bin .add (.c v54) (.c v56)) E0 h fun v57 h =>
 (wi F L (.bin .quo (.c v49) (.c (.int .i64 100))) E0 h fun v59 h =>
 (wi F L (.bin .sub (.c v57) (.c v59)) E0 h fun v60 h =>
 (wi F L (.bin .mul (.c (.int .i64 153)) (.c v8)) E0 h fun v62 h =>
 (wi F L (.bin .add (.c v62) (.c (.int .i64 2))) E0 h fun v63 h =>
 (wi F L (.bin .quo (.c v63) (.c (.int .i64 5))) E0 h fun v64 h =>
 (wi F L (.bin .add (.c v60) (.c v64)) E0 h fun v65 h =>
 (wi F L (.bin .add (.c v65) (.c v2)) E0 h fun v67 h =>
 (wi F L (.bin .sub (.c v67) (.c (.int .i64 1))) E0 h fun v68 h =>
 (wi F L (.bin .sub (.c v68) (.c (.int .i64 719468))) E0 h fun v69 h =>
 (wi F L (.call Qfs [(.c v69)]) E0 h fun v72 h =>
 (wi F L (.ext 0 (.c v72)) E0 h fun v73 h =>
 (wi F L (.ext 1 (.c v72)) E0 h fun v74 h =>
 (wi F L (.ext 2 (.c v72)) E0 h fun v75 h =>
 (wi F L (.bin .neq (.c v73) (.c v0)) E0 h fun v78 h =>
 (wg v78 false (wi F L (.mv (.c v74)) E0 h) h fun v80 h =>
 (wg v78 false (wi F L (.mv (.c v1)) E0 h) h fun v81 h =>
 (wg v78 false (wi F L (.bin .neq (.c v80) (.c v81)) E0 h) h fun v82 h =>
 (wi F L (.pick (.c v78) (.c (.bool true)) (.c v82)) E0 h fun v83 h =>
 (wg v83 false (wi F L (.mv (.c v75)) E0 h) h fun v85 h =>
 (wg v83 false (wi F L (.mv (.c v2)) E0 h) h fun v86 h =>
 (wg v83 false (wi F L (.bin .neq (.c v85) (.c v86)) E0 h) h fun v87 h =>
 (wi F L (.pick (.c v83) (.c (.bool true)) (.c v87)) E0 h fun v88 h =>
 (wb v88
 (∃ v, some (.int .i64 (-1)) = some v ∧ K v h)
 (Qhx L K v69 h)))))))))))))))))))))))))))))))
def Qfi (L : QL) (K : QK) (v0 v1 v2 : V) (h : Heap) : Prop :=
 (wi F L (.bin .sub (.c v1) (.c (.int .i64 3))) E0 h fun v39 h =>
 (wi F L (.bin .leq (.c v1) (.c (.int .i64 2))) E0 h fun v41 h =>
 (wb v41
 (wi F L (.bin .sub (.c v0) (.c (.int .i64 1))) E0 h fun v43 h =>
 (wi F L (.bin .add (.c v1) (.c (.int .i64 9))) E0 h fun v45 h =>
 (QeO L K v0 v1 v2 v43 v45 h)))
 (QeO L K v0 v1 v2 v0 v39 h))))
def QqR (L : QL) (K : QK) (a0 a1 a2 : V) (h : Heap) : Prop :=
 (wi F L (.bin .lss (.c a0) (.c (.int .i64 1970))) E0 h fun v16 h =>
 (wg v16 false (wi F L (.mv (.c a0)) E0 h) h fun v18 h =>
 (wg v16 false (wi F L (.bin .gtr (.c v18) (.c (.int .i64 9999))) E0 h) h fun v19 h =>
 (wi F L (.pick (.c v16) (.c (.bool true)) (.c v19)) E0 h fun v20 h =>
 (wg v20 false (wi F L (.mv (.c a1)) E0 h) h fun v22 h =>
 (wg v20 false (wi F L (.bin .lss (.c v22) (.c (.int .i64 1))) E0 h) h fun v23 h =>
 (wi F L (.pick (.c v20) (.c (.bool true)) (.c v23)) E0 h fun v24 h =>
 (wg v24 false (wi F L (.mv (.c a1)) E0 h) h fun v26 h =>
 (wg v24 false (wi F L (.bin .gtr (.c v26) (.c (.int .i64 12))) E0 h) h fun v27 h =>
 (wi F L (.pick (.c v24) (.c (.bool true)) (.c v27)) E0 h fun v28 h =>
 (wg v28 false (wi F L (.mv (.c a2)) E0 h) h fun v30 h =>
 (wg v28 false (wi F L (.bin .lss (.c v30) (.c (.int .i64 1))) E0 h) h fun v31 h =>
 (wi F L (.pick (.c v28) (.c (.bool true)) (.c v31)) E0 h fun v32 h =>
 (wg v32 false (wi F L (.mv (.c a2)) E0 h) h fun v34 h =>
 (wg v32 false (wi F L (.bin .gtr (.c v34) (.c (.int .i64 31))) E0 h) h fun v35 h =>
 (wi F L (.pick (.c v32) (.c (.bool true)) (.c v35)) E0 h fun v36 h =>
 (wb v36
 (∃ v, some (.int .i64 (-1)) = some v ∧ K v h)
 (Qfi L K a0 a1 a2 h))))))))))))))))))
theorem QyP {L : QL} {K : QK} {a0 a1 a2 : V} {h : Heap} (hp : QqR L K a0 a1 a2 h) : Cf F L Qgc [a0, a1, a2] h K :=
  wcallp QH0 (of_decide_eq_true (by kernel_rfl)) (p := QqR L K a0 a1 a2 h) (by kernel_rfl) hp
def QnN (L : QL) (K : QK) (a0 a1 : V) (h : Heap) : Prop :=
 (wi F L (.nilck (.c a0)) E0 h fun v7 h =>
 (wi F L (.ixaArr 256 1 (.c v7) (.c a1)) E0 h fun v8 h =>
 (wi F L (.load false 1 (.c v8)) E0 h fun v9 h =>
 (∃ v, some v9 = some v ∧ K v h))))
theorem QB1 {L : QL} {K : QK} {a0 a1 : V} {h : Heap} (hp : QnN L K a0 a1 h) : Cf F L Qdj [a0, a1] h K :=
  wcallp QxU (of_decide_eq_true (by kernel_rfl)) (p := QnN L K a0 a1 h) (by kernel_rfl) hp
def QmW (L : QL) (K : QK) (a0 : V) (h : Heap) : Prop :=
 (wi F L (.bin .eql (.c a0) (.c (.int .u8 9))) E0 h fun v4 h =>
 (wg v4 false (wi F L (.mv (.c a0)) E0 h) h fun v6 h =>
 (wg v4 false (wi F L (.bin .geq (.c v6) (.c (.int .u8 32))) E0 h) h fun v7 h =>
 (wg v4 false (wi F L (.mv (.c v7)) E0 h) h fun v8 h =>
 (wg v8 true (wi F L (.mv (.c a0)) E0 h) h fun v9 h =>
 (wg v8 true (wi F L (.bin .neq (.c v9) (.c (.int .u8 127))) E0 h) h fun v10 h =>
 (wg v4 false (wi F L (.pick (.c v8) (.c v10) (.c (.bool false))) E0 h) h fun v11 h =>
 (wi F L (.pick (.c v4) (.c (.bool true)) (.c v11)) E0 h fun v12 h =>
 (∃ v, some v12 = some v ∧ K v h)))))))))
theorem QAx {L : QL} {K : QK} {a0 : V} {h : Heap} (hp : QmW L K a0 h) : Cf F L Qfj [a0] h K :=
  wcallp QDp (of_decide_eq_true (by kernel_rfl)) (p := QmW L K a0 h) (by kernel_rfl) hp
def QdL (L : QL) (K : QK) (h : Heap) : Prop :=
 (∃ v, some (.int .i64 31) = some v ∧ K v h)
def QdU (L : QL) (K : QK) (h : Heap) : Prop :=
 (∃ v, some (.int .i64 28) = some v ∧ K v h)
def QcH (L : QL) (K : QK) (v10 : V) (h : Heap) : Prop :=
 (wb v10
 (∃ v, some (.int .i64 30) = some v ∧ K v h)
 (QdL L K  h))
def Qm4 (L : QL) (K : QK) (a0 a1 : V) (h : Heap) : Prop :=
 (wi F L (.bin .eql (.c a1) (.c (.int .i64 2))) E0 h fun v7 h =>
 (wb v7
 (wi F L (.call QeB [(.c a0)]) E0 h fun v9 h =>
 (wb v9
 (∃ v, some (.int .i64 29) = some v ∧ K v h)
 (QdU L K  h)))
 (wi F L (.bin .eql (.c a1) (.c (.int .i64 4))) E0 h fun v11 h =>
 (wb v11
 (QcH L K v11 h)
 (wi F L (.bin .eql (.c a1) (.c (.int .i64 6))) E0 h fun v12 h =>
 (wb v12
 (QcH L K v12 h)
 (wi F L (.bin .eql (.c a1) (.c (.int .i64 9))) E0 h fun v13 h =>
 (wb v13
 (QcH L K v13 h)
 (wi F L (.bin .eql (.c a1) (.c (.int .i64 11))) E0 h fun v14 h =>
 (QcH L K v14 h))))))))))
theorem QIH {L : QL} {K : QK} {a0 a1 : V} {h : Heap} (hp : Qm4 L K a0 a1 h) : Cf F L Qei [a0, a1] h K :=
  wcallp Qw9 (of_decide_eq_true (by kernel_rfl)) (p := Qm4 L K a0 a1 h) (by kernel_rfl) hp
def QpF (L : QL) (K : QK) (h : Heap) : Prop :=
 (∃ v, some (.int .i64 365) = some v ∧ K v h)
def QnE (L : QL) (K : QK) (a0 : V) (h : Heap) : Prop :=
 (wi F L (.call QeB [(.c a0)]) E0 h fun v4 h =>
 (wb v4
 (∃ v, some (.int .i64 366) = some v ∧ K v h)
 (QpF L K  h)))
theorem QHJ {L : QL} {K : QK} {a0 : V} {h : Heap} (hp : QnE L K a0 h) : Cf F L QeA [a0] h K :=
  wcallp QxJ (of_decide_eq_true (by kernel_rfl)) (p := QnE L K a0 h) (by kernel_rfl) hp
def Qhn (L : QL) (K : QK) (v2 v3 v4 : V) (h : Heap) : Prop :=
 (∃ v, Qa h (Qd [v2, v3, v4]) [.tmp 0, .tmp 1, .tmp 2] = some v ∧ K v h)
def Qic (L : QL) (K : QK) (v0 : V) (h : Heap) : Prop :=
 (wi F L (.bin .add (.c v0) (.c (.int .i64 719468))) E0 h fun v18 h =>
 (wi F L (.bin .quo (.c v18) (.c (.int .i64 146097))) E0 h fun v20 h =>
 (wi F L (.bin .rem (.c v18) (.c (.int .i64 146097))) E0 h fun v22 h =>
 (wi F L (.bin .quo (.c v22) (.c (.int .i64 1460))) E0 h fun v25 h =>
 (wi F L (.bin .sub (.c v22) (.c v25)) E0 h fun v26 h =>
 (wi F L (.bin .quo (.c v22) (.c (.int .i64 36524))) E0 h fun v28 h =>
 (wi F L (.bin .add (.c v26) (.c v28)) E0 h fun v29 h =>
 (wi F L (.bin .quo (.c v22) (.c (.int .i64 146096))) E0 h fun v31 h =>
 (wi F L (.bin .sub (.c v29) (.c v31)) E0 h fun v32 h =>
 (wi F L (.bin .quo (.c v32) (.c (.int .i64 365))) E0 h fun v33 h =>
 (wi F L (.bin .mul (.c (.int .i64 365)) (.c v33)) E0 h fun v36 h =>
 (wi F L (.bin .quo (.c v33) (.c (.int .i64 4))) E0 h fun v38 h =>
 (wi F L (.bin .add (.c v36) (.c v38)) E0 h fun v39 h =>
 (wi F L (.bin .quo (.c v33) (.c (.int .i64 100))) E0 h fun v41 h =>
 (wi F L (.bin .sub (.c v39) (.c v41)) E0 h fun v42 h =>
 (wi F L (.bin .sub (.c v22) (.c v42)) E0 h fun v43 h =>
 (wi F L (.bin .mul (.c (.int .i64 5)) (.c v43)) E0 h fun v45 h =>
 (wi F L (.bin .add (.c v45) (.c (.int .i64 2))) E0 h fun v46 h =>
 (wi F L (.bin .quo (.c v46) (.c (.int .i64 153))) E0 h fun v47 h =>
 (wi F L (.bin .mul (.c (.int .i64 153)) (.c v47)) E0 h fun v50 h =>
 (wi F L (.bin .add (.c v50) (.c (.int .i64 2))) E0 h fun v51 h =>
 (wi F L (.bin .quo (.c v51) (.c (.int .i64 5))) E0 h fun v52 h =>
 (wi F L (.bin .sub (.c v43) (.c v52)) E0 h fun v53 h =>
 (wi F L (.bin .add (.c v53) (.c (.int .i64 1))) E0 h fun v54 h =>
 (wi F L (.bin .add (.c v47) (.c (.int .i64 3))) E0 h fun v56 h =>
 (wi F L (.bin .mul (.c (.int .i64 400)) (.c v20)) E0 h fun v59 h =>
 (wi F L (.bin .add (.c v33) (.c v59)) E0 h fun v60 h =>
 (wi F L (.bin .gtr (.c v56) (.c (.int .i64 12))) E0 h fun v62 h =>
 (wb v62
 (wi F L (.bin .sub (.c v56) (.c (.int .i64 12))) E0 h fun v64 h =>
 (wi F L (.bin .add (.c v60) (.c (.int .i64 1))) E0 h fun v66 h =>
 (Qhn L K v66 v64 v54 h)))
 (Qhn L K v60 v56 v54 h))))))))))))))))))))))))))))))
def Qng (L : QL) (K : QK) (a0 : V) (h : Heap) : Prop :=
 (wi F L (.bin .lss (.c a0) (.c (.int .i64 0))) E0 h fun v12 h =>
 (wg v12 false (wi F L (.mv (.c a0)) E0 h) h fun v14 h =>
 (wg v12 false (wi F L (.bin .gtr (.c v14) (.c (.int .i64 2932896))) E0 h) h fun v15 h =>
 (wi F L (.pick (.c v12) (.c (.bool true)) (.c v15)) E0 h fun v16 h =>
 (wb v16
 (∃ v, Qa h (Qd [(.int .i64 0), (.int .i64 0), (.int .i64 0)]) [.tmp 0, .tmp 1, .tmp 2] = some v ∧ K v h)
 (Qic L K a0 h))))))
theorem QIs {L : QL} {K : QK} {a0 : V} {h : Heap} (hp : Qng L K a0 h) : Cf F L Qfs [a0] h K :=
  wcallp QC5 (of_decide_eq_true (by kernel_rfl)) (p := Qng L K a0 h) (by kernel_rfl) hp
def Qq3 (L : QL) (K : QK) (a0 : V) (h : Heap) : Prop :=
 (wi F L (.bin .rem (.c a0) (.c (.int .i64 4))) E0 h fun v4 h =>
 (wi F L (.bin .eql (.c v4) (.c (.int .i64 0))) E0 h fun v5 h =>
 (wg v5 true (wi F L (.mv (.c a0)) E0 h) h fun v7 h =>
 (wg v5 true (wi F L (.bin .rem (.c v7) (.c (.int .i64 100))) E0 h) h fun v8 h =>
 (wg v5 true (wi F L (.bin .neq (.c v8) (.c (.int .i64 0))) E0 h) h fun v9 h =>
 (wg v5 true (wi F L (.mv (.c v9)) E0 h) h fun v10 h =>
 (wg v10 false (wi F L (.mv (.c a0)) E0 h) h fun v11 h =>
 (wg v10 false (wi F L (.bin .rem (.c v11) (.c (.int .i64 400))) E0 h) h fun v12 h =>
 (wg v10 false (wi F L (.bin .eql (.c v12) (.c (.int .i64 0))) E0 h) h fun v13 h =>
 (wg v5 true (wi F L (.pick (.c v10) (.c (.bool true)) (.c v13)) E0 h) h fun v14 h =>
 (wi F L (.pick (.c v5) (.c v14) (.c (.bool false))) E0 h fun v15 h =>
 (∃ v, some v15 = some v ∧ K v h))))))))))))
theorem QwE {L : QL} {K : QK} {a0 : V} {h : Heap} (hp : Qq3 L K a0 h) : Cf F L QeB [a0] h K :=
  wcallp QHv (of_decide_eq_true (by kernel_rfl)) (p := Qq3 L K a0 h) (by kernel_rfl) hp
theorem hF : ∀ f fn, F f = some fn → Qh Tryz.prog f = some fn := Quf ⟨Qwj, QxG, QFd, QBg, QHX, QII, QzB, QAr, QxN, Qy0, QAw, QDI, QCR, QHt, Qyk, QIf, QAF, QB2, QDR, QDV, QCD, QCM, QE9, QDO, QIM, QwV, QHk, Qxp, QGA, QAb, Qxt, QAd, QBj, Qyw, Qws, QJ2, QJs, QwC, Qxb, QAm, QEm, QzZ, QBN, QCk, QBA, QBX, QAi, QIO, Qyn, QHa, QEJ, Qx1, QGB, QHc, QwM, QHZ, QEw, QHl, Qzm, QBY, QFB, QDi, QJe, QAE, Qyh, QGQ, QJj, QH7, QxY, QDJ, QCz, QFn, QEs, QDw, QEP, QAn, QHw, QCI, QwH, QzY, QCK, QGS, QE1, QAv, QJq, QCe, QHW, QGh, Qw5, QHO, QBm, QEH, QBW, QIT, QGj, QDy, QGq, QIV, QFz, QBE, Qwb, QAU, QJV, QCy, Qyf, QAA, Qxr, Qyp, QG2, QBC, Qxz, QB5, QHj, QGV, QCp, QzR, QGO, trivial⟩
theorem hm : Tryz.prog.follows .mixedOrders = true := by kernel_rfl
end Go.Proofs.YtaahialaegfjgaaGreatDoor.Vh
end
