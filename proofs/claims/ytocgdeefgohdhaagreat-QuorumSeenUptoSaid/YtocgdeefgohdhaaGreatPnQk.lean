/-
  Qk
-/
import Derived.Test.YtocgdeefgohdhaaGreatRows
import Derived.Test.YtocgdeefgohdhaaGreatPnQj
import Derived.Test.YtocgdeefgohdhaaGreatPnI
set_option linter.all false
set_option maxRecDepth 100000
set_option maxHeartbeats 4000000
namespace Go.Proofs.YtocgdeefgohdhaaGreat
attribute [local irreducible] RD RS St1 RL RA RT RT1 Run
theorem same_self (v : MV) : sameCart v v = true := by simp [sameCart, sameCtx]
theorem mg_c {ts : List TargetC} {X : TargetC → MV} {s : Six} : ts.map (fun t => mkC (X t) s) = (ts.map (fun t => (⟨X t, s⟩ : Mg))).map Mg.c := by rw [List.map_map]; rfl
theorem own_mg {ts : List TargetC} (X : TargetC → MV) (s : Six) {w : World} {T : TypeId} {a : Option Addr} {c : Nat} (h : OwnSl w T a c (ts.map (fun t => mkC (X t) s))) : OwnSl w T a c ((ts.map (fun t => (⟨X t, s⟩ : Mg))).map Mg.c) := by rw [← mg_c]; exact h
theorem mg_len (ts : List TargetC) (X : TargetC → MV) (s : Six) : (ts.map (fun t => mkC (X t) s)).length = ((ts.map (fun t => (⟨X t, s⟩ : Mg))).map Mg.c).length := by simp only [List.length_map]
theorem mg_v {ts : List TargetC} {X : TargetC → MV} {s : Six} : (ts.map (fun t => (⟨X t, s⟩ : Mg))).map Mg.v = ts.map X := by rw [List.map_map]; rfl
theorem nil_Rs {w : World} : MgsR w [] := fun _ h => absurd h (by simp)
theorem rgetL_ (self req nd now : Int) (id knd qty price : Int) (key item : ByteArray) (va : MV) (sa : Six) (al : Option Addr) (ts : List TargetC) (lc : Nat) (w0 w : World) (hK0 : Ext w0 w) (hA0 : CartR w0 sa va) (hoa : CartOk va sa) (hl0 : SlOf w0 al ts) (hll : ts.length ≤ 1048576) (hlc : ts.length ≤ lc) :
    Calls Tryz.prog 32 #[.int .i64 (self), .int .i64 (req), .agg #[.int .i64 (id), .int .i64 (knd), .string (key), .string (item), .int .i64 (qty), .int .u64 (price), .slice (sa.ea) (va.ent.length) (sa.ec), .slice (sa.ma) (va.mrk.length) (sa.mc), .slice (sa.ca) (va.cl.length) (sa.cc)], .slice (al) (ts.length) (lc), .int .i64 (nd), .int .i64 (now)] w (Ret (fun r w' => ((begE self req nd now ts (canE va.mrk va.cl va.ent)) ≠ 0 ∧ r = .tuple #[.pointer none, .slice none 0 0, .int .i64 (begE self req nd now ts (canE va.mrk va.cl va.ent))] ∧ Ext w w') ∨ ((begE self req nd now ts (canE va.mrk va.cl va.ent)) = 0 ∧ ∃ x F a c L, r = .tuple #[jp x, .slice a ((L : List Mg).map Mg.c).length c, .int .i64 0] ∧ RefAt w0 w' x F (⟨self, req, nd, now, false, id, key, va, nilV, ts, List.replicate ts.length false, List.replicate ts.length false, (List.replicate ts.length (⟨nilV, nilS⟩ : Mg)).map Mg.v, [], 0, 0, false, false, false, false⟩ : RM) ∧ OwnSl w' 48 a c (L.map Mg.c) ∧ L.map Mg.v = ts.map (fun t => cartMsg 3 self t.node req key (-1) nilV) ∧ MgsR w L ∧ (∀ q, F q → w.heap.size ≤ q) ∧ (∀ q, own a q → w.heap.size ≤ q) ∧ (∀ q, F q → ¬ own a q) ∧ Ext w w'))) := by
  refine (rget_ self req nd now id knd qty price key item va sa al ts lc w0 w hK0 hA0 hoa hl0 hll hlc).mono ?_
  rintro e_ w_ ⟨r_, h1_, (h2_ | ⟨h0_, x_, F_, a_, c_, hr_, hX_, ho_, h3_⟩)⟩
  · exact ⟨r_, h1_, .inl h2_⟩
  · refine ⟨r_, h1_, .inr ⟨h0_, x_, F_, a_, c_, ts.map (fun t => (⟨cartMsg 3 self t.node req key (-1) nilV, nilS⟩ : Mg)), by rw [hr_, mg_len ts (fun t => cartMsg 3 self t.node req key (-1) nilV) nilS], hX_, own_mg (fun t => cartMsg 3 self t.node req key (-1) nilV) nilS ho_, mg_v, fun m_ hm_ => ?_, h3_⟩⟩
    obtain ⟨t_, _, rfl⟩ := List.mem_map.1 hm_
    exact ⟨only_R (s := nilS) nil_R.cart, cartMsg_ok nil_ok⟩
attribute [local irreducible] X
theorem sameCtxR_ (a b : MV) (s t : Six) (w : World) (hR : CartR w s a) (hQ : CartR w t b) (hv : VOk a) :
  Calls Tryz.prog 71 #[.agg #[.slice (s.ma) (a.mrk.length) (s.mc), .slice (s.ca) (a.cl.length) (s.cc)], .agg #[.slice (t.ma) (b.mrk.length) (t.mc), .slice (t.ca) (b.cl.length) (t.cc)]] w (Ret (fun v w' => v = .bool (sameCtx a b) ∧ Ext w w')) := by
 have hv0 := hv; obtain ⟨hv1, hv2, hv3, hv4, hv5, hv6⟩ := hv; refine calls_run (n := 17) Tryz.func71 rfl rfl rfl ?_; refine jG ?_; refine jR <| jB ?_; intro a7 a9 a5 a0 a3; have : w.heap.size ≤ a7 := a5; clear a5; have K0 := (a3 : Ext w _); refine jR <| jB ?_; intro aa ab a4 a6 a2; have ac := ltLe a0.lt a4; have := Nat.le_trans K0.size a4; clear a4; replace a0 := a0.ext a2; refine jG ?_; replace hR := (hR.ext a3).ext a2; replace hQ := (hQ.ext a3).ext a2; refine jR <| jC (equal_mrk _ _ _ _ _ _ _ (hR).mrk (hQ).mrk (by omega)) ?_; rintro _ ad ⟨rfl, a1⟩; replace a0 := a0.ext a1; replace a6 := a6.ext a1; refine jG ?_; replace hR := hR.ext a1; replace hQ := hQ.ext a1; refine RL.gcall (vals := [.slice (s.ca) (a.cl.length) (s.cc), .slice (t.ca) (b.cl.length) (t.cc)]) (wantedT rfl rfl rfl rfl) en92.h (fun hg => (mcons (gvr hg) (mcons (gvr hg) mnil))) (fun hg => (equal_c _ _ _ _ _ _ _ (hR).cl (hQ).cl (by omega))) ?_; intro ae a8; refine jV (x_and rfl rfl rfl) ?_; refine jG ?_; refine jJ Tryz.func71 ?_; replace K0 := ((K0.ext a2).ext a1).ext a8; exact ⟨_, rfl, rfl, K0⟩
theorem sameCartR_ (a b : MV) (s t : Six) (w : World) (hR : CartR w s a) (hQ : CartR w t b) (hv : VOk a) :
  Calls Tryz.prog 33 #[.agg #[.slice (s.ea) (a.ent.length) (s.ec), .slice (s.ma) (a.mrk.length) (s.mc), .slice (s.ca) (a.cl.length) (s.cc)], .agg #[.slice (t.ea) (b.ent.length) (t.ec), .slice (t.ma) (b.mrk.length) (t.mc), .slice (t.ca) (b.cl.length) (t.cc)]] w (Ret (fun v w' => v = .bool (sameCart a b) ∧ Ext w w')) := by
 have hv0 := hv; obtain ⟨hv1, hv2, hv3, hv4, hv5, hv6⟩ := hv; refine calls_run (n := 17) Tryz.func33 rfl rfl rfl ?_; refine jG ?_; refine jR <| jB ?_; intro a7 a9 a5 a0 a3; have : w.heap.size ≤ a7 := a5; clear a5; have K0 := (a3 : Ext w _); refine jR <| jB ?_; intro aa ab a4 a6 a2; have ac := ltLe a0.lt a4; have := Nat.le_trans K0.size a4; clear a4; replace a0 := a0.ext a2; refine jG ?_; replace hR := (hR.ext a3).ext a2; replace hQ := (hQ.ext a3).ext a2; refine jR <| jC (equal_ent _ _ _ _ _ _ _ (hR).ent (hQ).ent (by omega)) ?_; rintro _ ad ⟨rfl, a1⟩; replace a0 := a0.ext a1; replace a6 := a6.ext a1; refine jG ?_; replace hR := hR.ext a1; replace hQ := hQ.ext a1; refine RL.gcall (vals := [.agg #[.slice (s.ma) (a.mrk.length) (s.mc), .slice (s.ca) (a.cl.length) (s.cc)], .agg #[.slice (t.ma) (b.mrk.length) (t.mc), .slice (t.ca) (b.cl.length) (t.cc)]]) (wantedT rfl rfl rfl rfl) en71.h (fun hg => (mcons (gvr hg) (mcons (gvr hg) mnil))) (fun hg => (sameCtxR_ a b s t _ hR hQ (by assumption))) ?_; intro ae a8; refine jV (x_and rfl rfl rfl) ?_; refine jG ?_; refine jJ Tryz.func33 ?_; replace K0 := ((K0.ext a2).ext a1).ext a8; exact ⟨_, rfl, rfl, K0⟩
end Go.Proofs.YtocgdeefgohdhaaGreat
