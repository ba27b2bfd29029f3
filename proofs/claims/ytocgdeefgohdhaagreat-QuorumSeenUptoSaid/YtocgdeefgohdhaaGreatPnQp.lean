/-
  Qp
-/
import Derived.Test.YtocgdeefgohdhaaGreatRows
import Derived.Test.YtocgdeefgohdhaaGreatPnQo
import Derived.Test.YtocgdeefgohdhaaGreatPnI
set_option linter.all false
set_option maxRecDepth 100000
set_option maxHeartbeats 4000000
namespace Go.Proofs.YtocgdeefgohdhaaGreat
attribute [local irreducible] RD RS St1 RL RA RT RT1 Run
def tickOk (Q : PM) (now : Int) : Bool := Q.made && !Q.done && decide (Q.began + 1000 ≤ now)
abbrev qD (Q : PM) (st : Int) : PM := ⟨Q.self, Q.req, Q.need, Q.began, Q.id, Q.key, Q.seen, Q.targets, Q.got, true, true, Q.made, st, Q.put, Q.cart, Q.fine, Q.bad⟩
open Classical in
noncomputable def tickN (Q : PM) (now : Int) : PM := if tickOk Q now = true then qD Q (if Q.answered = true then Q.status else 504) else Q
open Classical in
noncomputable def tickMs (Q : PM) (now : Int) : List MV := if tickOk Q now = true ∧ Q.answered = true then lastL (qD Q Q.status) else []
open Classical in
noncomputable def tickSt (Q : PM) (now : Int) : Int := if tickOk Q now = true ∧ Q.answered = false then 504 else 0
section
variable {Q : PM} {now : Int}
theorem tick_no (h : ¬ tickOk Q now = true) : tickN Q now = Q ∧ tickMs Q now = [] ∧ tickSt Q now = 0 := ⟨by rw [tickN, if_neg h], by rw [tickMs, if_neg (fun e => h e.1)], by rw [tickSt, if_neg (fun e => h e.1)]⟩
theorem MInv.tick (h : MInv Q) : MInv (tickN Q now) := by
  by_cases hk : tickOk Q now = true
  · rw [tickN, if_pos hk]; exact ⟨h.ok, h.cx⟩
  · rw [(tick_no hk).1]; exact h
end
section
variable {w : World} {m : Nat} {M : Mq} {an : Bool} {st : Int}
abbrev mqD (M : Mq) (an : Bool) (st : Int) : Mq := ⟨M.self, M.req, M.need, M.began, M.id, M.knd, M.key, M.item, M.qty, M.price, M.seen, M.ss, M.ta, M.tc, M.targets, M.ga, M.gc, M.got, an, true, M.made, st, M.put, M.kb, M.cart, M.cs, M.fine, M.bad⟩
end
theorem onA_ (m : Nat) (F : Nat → Prop) (Q : PM) (v : MV) (s : Six) (w : World) (hM : MachAt w m F Q) (hI : MInv Q) (hR : SixR w s v) (hv : VOk v) (hE : EntB v.ent) (hcap : v.ent.length ≤ s.ec) :
    Calls Tryz.prog 11 #[jp m, .agg #[.int .i64 (((mkC v s)).kind), .int .i64 (((mkC v s)).frm), .int .i64 (((mkC v s)).to), .int .i64 (((mkC v s)).req), .string (((mkC v s)).key), .slice (s.ea) (v.ent.length) (s.ec), .slice (s.ma) (v.mrk.length) (s.mc), .slice (s.ca) (v.cl.length) (s.cc), .int .i64 (((mkC v s)).owner), .int .i64 (((mkC v s)).part), .int .i64 (((mkC v s)).n), .int .i64 ((((mkC v s)).ring).parts), .int .i64 ((((mkC v s)).ring).copies), .int .i64 ((((mkC v s)).ring).spots), .slice (s.ba) (v.mem.length) (s.bc), .slice (s.pa) (v.pe.length) (s.pc), .slice (s.sa) (v.su.length) (s.sc)]] w (Ret fun r w' => StepAt w w' m F (onN Q v) (onMs Q v) Q.id (onSt Q v) (onVl Q v) r) := by
  obtain ⟨M, rfl, rfl, h, ho⟩ := hM
  cases hp : M.put with
  | false => exact ong_ m M v s w h ho hp hI.ok (hI.cx hp) hR hv hE hcap
  | true =>
    refine (onp_ m M v s w h ho hp hI.ok hR hv hE hcap).mono ?_
    rintro e_ w_ ⟨r_, h1_, F', t0, rfl, (⟨hno, hM, rfl⟩ | ⟨hy, hM, hT⟩), hF, K⟩
    · have hn : ¬ onOk M.pv v = true := by rw [hno]; decide
      obtain ⟨e1, e2, e3⟩ := onN_no hn
      exact ⟨_, h1_, by rw [e1, e2, e3]; exact StepAt.plain hM (.inl ⟨rfl, rfl⟩) hF K⟩
    · obtain ⟨e1, e2, e3, e4⟩ := onN_put hy hp
      exact ⟨_, h1_, by rw [e1, e2, e3, e4]; exact StepAt.plain hM hT hF K⟩
end Go.Proofs.YtocgdeefgohdhaaGreat
