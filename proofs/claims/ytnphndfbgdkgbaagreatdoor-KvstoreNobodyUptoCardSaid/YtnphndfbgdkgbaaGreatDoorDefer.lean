/-
  Calls that are put off; a lock that is taken and given back.
-/
import Derived.Test.YtnphndfbgdkgbaaGreatDoorMore
import Derived.Defers
import Derived.Conc.MuLone
namespace Go.Proofs.YtnphndfbgdkgbaaGreatDoor
open Go.Conc.Locks Go.MuLone

section
variable {P : Program} {f : FuncId} {n : FN} {m : Nat} {R : Ending → World → Prop} {k : List Item} {ops : Array Oper} {ρ : Regs} {w : World}
variable {dst : Option Nat} {ty : TypeId} {pos : String} {af : Array Edge}
/-- a call is put off, the last operation of its region -/
theorem RL.defer {ol : List Operand} {ts : Array TypeId} {g : FuncId} {vals : List Value} (ha : ol.map (rd n ρ) = vals)
    (h : Run P f ⟨n.n, ⟨.fn (.func g) #[], vals.toArray⟩ :: n.ds⟩ R k (updo ρ dst undef) w) :
    RL P f n R k ops [⟨dst, .defer { callee := .value (.func g), args := ol.toArray, argTypes := ts }, ty, pos, af, none⟩] ρ w := by
  refine wpList_plain rfl fun K hK => ?_
  have hrun : (execOp (rd n ρ) ⟨dst, .defer { callee := .value (.func g), args := ol.toArray, argTypes := ts }, ty, pos, af, none⟩).run P w = .ok (.defer ⟨.fn (.func g) #[], vals.toArray⟩) w := by
    simp [execOp, resolve, rd, Deferred.ofValue, ha]
  simp only [Oper.wp, eval_act, hrun, Oper.upon]
  have e : ({ act n ρ with defers := (⟨.fn (.func g) #[], vals.toArray⟩ : Deferred) :: (act n ρ).defers } : Act) = act ⟨n.n, ⟨.fn (.func g) #[], vals.toArray⟩ :: n.ds⟩ ρ := rfl
  rw [e, put_act]
  exact hK _ _ ⟨_, _, rfl, h⟩
/-- a function returns: the calls that were put off are made -/
theorem Run.retD {fn : Func} (hf : P.funcs[f]? = some fn) (h : Leaves P fn (act n ρ).tmps R n.ds .returning w) : Run P f n R (.code .ret :: k) ρ w := fun cs => by
  obtain ⟨e', w'', fr', hR, hs, hfn, hl⟩ := leaves_steps n.ds .returning w { ((bf f).at (act n ρ) (.code .ret :: k)) with mode := .returning } cs rfl rfl rfl hf rfl h
  exact ⟨e', w'', fr', hR, Comes.of_steps (.one step_ret) hs, hfn, hl⟩
/-- a function returns, and gives a lock back -/
theorem Run.retU {L : MuLink} (H : MuLib P L) {fn : Func} {a : Addr} {v : Value} (hf : P.funcs[f]? = some fn) (hds : n.ds = [⟨.fn (.func L.unlock) #[], #[.pointer (some a)]⟩]) (hr : ∀ w, (results fn (act n ρ).tmps).run P w = .ok v w)
    (hc : w.cell? a = some (.int .i32 1)) (hz : w.frozen? a = false) (h : R (.returned v) (w.setCell a (.int .i32 0))) : Run P f n R (.code .ret :: k) ρ w := by
  refine Run.retD hf ?_
  rw [hds]
  refine leaves_cons (f := L.unlock) (args := #[.pointer (some a)]) (by simp) (show (callFunc L.unlock #[.pointer (some a)]).run P w = _ from run_callFunc_enter H.f_unlock rfl rfl _ _) ?_
  refine (unlock_deferred H a .returning _ hc hz).mono ?_
  rintro e u' w'' ⟨rfl, rfl, rfl⟩
  exact ⟨_, hr _, h⟩
end
section
variable {P : Program} {L : MuLink} {b : Nat} {T : TypeId} {w : World} {cs : List Value} {v u : Value}
theorem keepsCell (w : World) (b o : Nat) (v : Value) : Keeps (one b) w (w.setCell ⟨b, o, none⟩ v) :=
  ⟨rfl, rfl, rfl, by simp [World.setCell], fun k _ hn => by
    simp only [World.setCell, Array.getElem?_modify]
    rw [if_neg (fun e => hn e.symm)]⟩
theorem Blk.cellH (h : Blk w b (v :: cs) T) : w.cell? ⟨b, 0, none⟩ = some v := h.cl.head
theorem Blk.thawH {c : List Value} (h : Blk w b c T) (o : Nat) : w.frozen? ⟨b, o, none⟩ = false := by
  unfold Blk at h
  simp [World.frozen?, h]
theorem Blk.setH (h : Blk w b (v :: cs) T) : Blk (w.setCell ⟨b, 0, none⟩ u) b (u :: cs) T := by
  unfold Blk at *
  simp [World.setCell, Array.getElem?_modify, h]
theorem lockB (H : MuLib P L) (h : Blk w b (.int .i32 0 :: cs) T) : Calls P L.lock #[.pointer (some ⟨b, 0, none⟩)] w (Ret fun v w' => v = .tuple #[] ∧ Blk w' b (.int .i32 1 :: cs) T ∧ Keeps (one b) w w') :=
  (lock_free H _ w h.cellH (h.thawH 0)).mono fun _ _ ⟨he, hw⟩ => ⟨_, he, rfl, hw ▸ h.setH, hw ▸ keepsCell w b 0 _⟩
theorem unlockB (H : MuLib P L) (h : Blk w b (.int .i32 1 :: cs) T) : Calls P L.unlock #[.pointer (some ⟨b, 0, none⟩)] w (Ret fun v w' => v = .tuple #[] ∧ Blk w' b (.int .i32 0 :: cs) T ∧ Keeps (one b) w w') :=
  (unlock_held H _ w h.cellH (h.thawH 0)).mono fun _ _ ⟨he, hw⟩ => ⟨_, he, rfl, hw ▸ h.setH, hw ▸ keepsCell w b 0 _⟩
end
end Go.Proofs.YtnphndfbgdkgbaaGreatDoor
