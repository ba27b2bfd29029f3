/-
  Cp
-/
import Derived.Test.YtocgdeefgohdhaaGreatRows
import Derived.Test.YtocgdeefgohdhaaGreatPkCo
/-
  Carts, sixteenth part: the program's Can.
-/
namespace Go.Proofs.YtocgdeefgohdhaaGreat
attribute [local irreducible] St1 RL RA RT RT1 Run
attribute [local irreducible] mayD smD ltD ltM ordD mkN Cov CovR
attribute [local irreducible] ltE cmpE itemsN errE firstE canE canX Gr nameK priceN
theorem en87 : Enters Tryz.prog 87 := enters_of Tryz.func87 rfl (by kernel_rfl)
theorem en88 : Enters Tryz.prog 88 := enters_of Tryz.func88 rfl (by kernel_rfl)
set_option maxRecDepth 100000 in
set_option maxHeartbeats 4000000 in
theorem canC_ (am : Option Addr) (ms : List MarkC) (cm : Nat) (ac : Option Addr) (cl : List DotC) (cc : Nat) (ae : Option Addr) (es : List EntryC) (ce : Nat) (w : World) (hcap : es.length ≤ ce) (hs : SlOf w am ms) (ht : SlOf w ac cl) (hse : SlOf w ae es) (hl : ms.length ≤ 4294967295) (hl2 : cl.length ≤ 4294967295) (hl3 : es.length ≤ 4294967295) (hb : EntB es) :
  Calls Tryz.prog 67 #[.agg #[.slice (ae) (es.length) (ce), .slice (am) (ms.length) (cm), .slice (ac) (cl.length) (cc)]] w (Ret (fun v w' => v = .int .i64 (canE ms cl es) ∧ Ext w w')) := by
 refine calls_run (n := 32) Tryz.func67 rfl rfl rfl <| Run.seq <| Run.region <| RL.st rfl <| St1.box (v := .agg #[.slice (ae) (es.length) (ce), .slice (am) (ms.length) (cm), .slice (ac) (cl.length) (cc)]) rfl ?_; intro b_1 w_2 hl_5 hb_4 K_3; replace hb_4 : Blk w_2 b_1 [.slice (ae) (es.length) (ce), .slice (am) (ms.length) (cm), .slice (ac) (cl.length) (cc)] 29 := hb_4; have : w.heap.size ≤ b_1 := hl_5; clear hl_5; have K0 := (K_3 : Ext w _); refine RL.val (x_assignI rfl) <| RL.nil <| Run.seq <| Run.block <| Run.seq <| Run.region <| RL.val (x_fld (o' := 1) Tryz.underlying29 rfl ty27 rfl rfl rfl) <| RL.val (x_lds (cs := #[.slice (am) (ms.length) (cm), .slice (ac) (cl.length) (cc)]) ty27 rfl rfl (hb_4.cl.drop 1 2)) <| RL.st rfl <| St1.call (vals := [.agg #[.slice (am) (ms.length) (cm), .slice (ac) (cl.length) (cc)]]) en86 rfl (can_ am ms cm ac cl cc _ (hs.ext K0) (ht.ext K0) (by omega) (by omega)) ?_; rintro _ w_6 ⟨rfl, K_7⟩; replace hb_4 := hb_4.ext K_7; replace K0 := K0.ext K_7; refine RL.val (x_not rfl) <| RL.val (x_assignB rfl) <| RL.nil ?_; refine Run.cond rfl (fun hc5 => ?_) (fun hc5 => ?_)
 ·try simp only [br] at hc5
  refine Run.seq <| Run.region <| RL.val (x_assignI rfl) <| RL.nil <| Run.ret1 (v := .int .i64 (30)) Tryz.func67 rfl rfl ?_; exact ⟨_, rfl, by rw [canE_ctx hc5], K0⟩
 ·try simp only [br] at hc5
  have hcan : canX ms cl = true := by simpa using hc5
  refine Run.seq <| Run.region <| RL.val (x_fld (o' := 0) Tryz.underlying29 rfl ty23 rfl rfl rfl) <| RL.val (x_ld (v := .slice (ae) (es.length) (ce)) ty23 rfl rfl (hb_4.cl.field (i := 0) rfl)) <| RL.val (x_lenSl Tryz.underlying23 rfl) <| RL.val (x_gtI rfl rfl) <| RL.val (x_assignB rfl) <| RL.nil ?_; refine Run.cond rfl (fun hc10 => ?_) (fun hc10 => ?_)
  ·try simp only [br] at hc10
   refine Run.seq <| Run.region <| RL.val (x_assignI rfl) <| RL.nil <| Run.ret1 (v := .int .i64 (51)) Tryz.func67 rfl rfl ?_; exact ⟨_, rfl, by rw [canE_long hcan (by omega)], K0⟩
  ·try simp only [br] at hc10
   refine Run.skip <| Run.inBlock <| Run.seq <| Run.seq <| Run.region <| RL.val (x_fld (o' := 0) Tryz.underlying29 rfl ty23 rfl rfl rfl) <| RL.val (x_ld (v := .slice (ae) (es.length) (ce)) ty23 rfl rfl (hb_4.cl.field (i := 0) rfl)) <| RL.val (x_lenSl Tryz.underlying23 rfl) <| RL.val (x_moveI rfl) <| RL.nil <| Run.block ?_; refine Run.loop (ι := Nat) (fun i ρ' w' => Holds ρ' [(1, .pointer (some ⟨b_1, 0, none⟩)), (17, .int .i64 (((es.length : Nat) : Int))), (18, .int .i64 (((i : Nat) : Int)))] ∧ Ext w w' ∧ (Blk w' b_1 [.slice (ae) (es.length) (ce), .slice (am) (ms.length) (cm), .slice (ac) (cl.length) (cc)] 29) ∧ (i ≤ es.length) ∧ (firstE ms cl es i = 0)) (fun i => es.length - i) 0 ?_ ?_
   ·refine ⟨⟨rfl, rfl, rfl, trivial⟩, K0, hb_4, ?_, ?_⟩
    ·omega
    ·exact firstE_zero _ _ _
   clear hb_4; clear K0; rintro i ρ_10 w_8 ⟨hH_9, K0, hb_4, hi, h0⟩ ih1; obtain ⟨ρ₀, rfl⟩ := hH_9.ex; clear hH_9; refine Run.seq <| Run.region <| RL.val (x_ltI rfl rfl) <| RL.nil <| Run.seq ?_; refine Run.cond rfl (fun hc19 => ?_) (fun hc19 => ?_)
   ·try simp only [br] at hc19
    refine Run.skip <| Run.seq <| Run.block <| Run.seq ?_; obtain ⟨x, hx⟩ : ∃ x, es[i]? = some x := ⟨_, List.getElem?_eq_getElem (by omega)⟩; refine Run.region <| RL.val (x_moveI rfl) <| RL.val (x_assignI rfl) <| RL.nil <| Run.seq <| Run.region <| RL.val (x_lds (cs := #[.slice (ae) (es.length) (ce), .slice (am) (ms.length) (cm), .slice (ac) (cl.length) (cc)]) ty29 rfl rfl (hb_4.cl.drop 0 3)) <| RL.val (x_moveI rfl) <| RL.st rfl <| St1.call (vals := [.agg #[.slice (ae) (es.length) (ce), .slice (am) (ms.length) (cm), .slice (ac) (cl.length) (cc)], .int .i64 (((i : Nat) : Int))]) en87 rfl (entry_ am ms cm ac cl cc ae es ce i x _ hcap (hs.ext K0) (ht.ext K0) (hse.ext K0) (by omega) (by omega) (by omega) hcan h0 hx (hb x (mem_of_at hx)).1) ?_; rintro _ w_11 ⟨rfl, K_12⟩; replace hb_4 := hb_4.ext K_12; replace K0 := K0.ext K_12; refine RL.val (x_assignI rfl) <| RL.nil <| Run.seq <| Run.region <| RL.val (x_moveI rfl) <| RL.val (x_neI rfl rfl) <| RL.nil ?_; refine Run.cond rfl (fun hc25 => ?_) (fun hc25 => ?_)
    ·try simp only [br] at hc25
     refine Run.seq <| Run.region <| RL.val (x_moveI rfl) <| RL.val (x_assignI rfl) <| RL.nil <| Run.ret1 (v := .int .i64 (errE ms cl (es.take i) x)) Tryz.func67 rfl rfl ?_; exact ⟨_, rfl, by rw [canE_at hcan (by omega) h0 hx hc25], K0⟩
    ·try simp only [br] at hc25
     refine Run.skip <| Run.inBlock <| Run.region <| RL.val (litI (c := ((i + 1 : Nat) : Int)) (x_add rfl rfl (by omega) (by omega)) rfl) <| RL.val (x_moveI rfl) <| RL.nil ?_; refine ih1 (i + 1) _ _ ?_ (by omega); refine ⟨⟨rfl, rfl, rfl, trivial⟩, K0, hb_4, ?_, ?_⟩
     ·omega
     ·exact firstE_step h0 hx hc25
   ·try simp only [br] at hc19
    refine Run.exit rfl <| Run.seq <| Run.seq <| Run.region <| RL.val (x_fld (o' := 0) Tryz.underlying29 rfl ty23 rfl rfl rfl) <| RL.val (x_ld (v := .slice (ae) (es.length) (ce)) ty23 rfl rfl (hb_4.cl.field (i := 0) rfl)) <| RL.st rfl <| St1.call (vals := [.slice (ae) (es.length) (ce)]) en88 rfl (many_ _ es _ _ (hse.ext K0) hcap (by omega)) ?_; rintro _ w_13 ⟨rfl, K_14⟩; replace K0 := K0.ext K_14; refine RL.val (x_gtI rfl rfl) <| RL.nil ?_; refine Run.cond rfl (fun hc31 => ?_) (fun hc31 => ?_)
    ·try simp only [br] at hc31
     refine Run.seq <| Run.region <| RL.val (x_assignI rfl) <| RL.nil <| Run.ret1 (v := .int .i64 (51)) Tryz.func67 rfl rfl ?_; exact ⟨_, rfl, by rw [canE_many hcan (by omega) (by rw [← (show i = es.length by omega)]; exact h0) (by omega)], K0⟩
    ·try simp only [br] at hc31
     refine Run.skip <| Run.seq <| Run.region <| RL.val (x_assignI rfl) <| RL.nil <| Run.ret1 (v := .int .i64 (0)) Tryz.func67 rfl rfl ?_; exact ⟨_, rfl, by rw [canE_ok hcan (by omega) (by rw [← (show i = es.length by omega)]; exact h0) (by omega)], K0⟩
end Go.Proofs.YtocgdeefgohdhaaGreat
