/-
  SwimLives: the law's helpers.
-/
import Derived.ChangeKeysEq
import Derived.Test.YtagfdmdajmkddaaRows
import Derived.Test.YtagfdmdajmkddaaLr
namespace Go.Proofs.Ytagfdmdajmkddaa
attribute [local irreducible] St1 RL RA RT RT1 Run

open Sa
structure Six where
  kind : Int
  frm : Int
  to : Int
  req : Int
  owner : Int
  n : Int
instance : Enc Six := Enc.struct (fun t => [.int .i64 t.kind, .int .i64 t.frm, .int .i64 t.to, .int .i64 t.req, .int .i64 t.owner, .int .i64 t.n]) 6 (fun _ => rfl) (fun _ v hv => by simp at hv; rcases hv with rfl | rfl | rfl | rfl | rfl | rfl <;> rfl) (by decide)

theorem Six.ext' {a b : Six} (h0 : a.kind = b.kind) (h1 : a.frm = b.frm) (h2 : a.to = b.to) (h3 : a.req = b.req) (h4 : a.owner = b.owner) (h5 : a.n = b.n) : a = b := by cases a; cases b; simp_all
instance : DecidableEq Six := fun a b => if h : a.kind = b.kind ∧ a.frm = b.frm ∧ a.to = b.to ∧ a.req = b.req ∧ a.owner = b.owner ∧ a.n = b.n then isTrue (Six.ext' h.1 h.2.1 h.2.2.1 h.2.2.2.1 h.2.2.2.2.1 h.2.2.2.2.2) else isFalse (fun e => h (by subst e; exact ⟨rfl, rfl, rfl, rfl, rfl, rfl⟩))
theorem eqItems_int {P : Program} {d e c i : Nat} {is : List Nat} {xs ys : Array Value} {a b : Int} {r : Bool} (hp : ∀ w, (part e xs (i * c)).run P w = .ok (.int .i64 a) w) (hq : ∀ w, (part e ys (i * c)).run P w = .ok (.int .i64 b) w) (he : ∀ w, (Op.equalIn d e (.int .i64 a) (.int .i64 b)).run P w = .ok (a == b) w)
    (hr : ∀ w, (Op.eqItems d e c xs ys is).run P w = .ok r w) (w : World) : (Op.eqItems d e c xs ys (i :: is)).run P w = .ok ((a == b) && r) w := by
  simp only [Op.eqItems, Sem.run_bind, hp, hq, he, Result.andThen_ok]
  cases a == b with
  | true => simpa using hr w
  | false => simp

set_option maxRecDepth 100000 in
theorem eq_Six (a b : Six) (w : World) : (Op.equalIn 10000 101 (.agg #[.int .i64 a.kind, .int .i64 a.frm, .int .i64 a.to, .int .i64 a.req, .int .i64 a.owner, .int .i64 a.n]) (.agg #[.int .i64 b.kind, .int .i64 b.frm, .int .i64 b.to, .int .i64 b.req, .int .i64 b.owner, .int .i64 b.n])).run Try.prog w = .ok (decide (a = b)) w := by
  obtain ⟨i3, hi3, _⟩ := ty3.info
  have h := run_equalIn_array (P := Try.prog) w 9999 (t := 101) #[.int .i64 a.kind, .int .i64 a.frm, .int .i64 a.to, .int .i64 a.req, .int .i64 a.owner, .int .i64 a.n] #[.int .i64 b.kind, .int .i64 b.frm, .int .i64 b.to, .int .i64 b.req, .int .i64 b.owner, .int .i64 b.n] Try.underlying101 hi3
  rw [show Try.prog.cellsOf 3 = 1 by kernel_rfl, show List.range 6 = [0, 1, 2, 3, 4, 5] from rfl] at h
  have h2 := (eqItems_int (P := Try.prog) (d := 9999) (e := 3) (c := 1) (i := 0) (xs := #[.int .i64 a.kind, .int .i64 a.frm, .int .i64 a.to, .int .i64 a.req, .int .i64 a.owner, .int .i64 a.n]) (ys := #[.int .i64 b.kind, .int .i64 b.frm, .int .i64 b.to, .int .i64 b.req, .int .i64 b.owner, .int .i64 b.n]) (a := a.kind) (b := b.kind) (run_part ty3 rfl) (run_part ty3 rfl) (fun w => run_equalIn_int w 9998 3 .i64 .i64 a.kind b.kind Try.underlying3) (eqItems_int (P := Try.prog) (d := 9999) (e := 3) (c := 1) (i := 1) (xs := #[.int .i64 a.kind, .int .i64 a.frm, .int .i64 a.to, .int .i64 a.req, .int .i64 a.owner, .int .i64 a.n]) (ys := #[.int .i64 b.kind, .int .i64 b.frm, .int .i64 b.to, .int .i64 b.req, .int .i64 b.owner, .int .i64 b.n]) (a := a.frm) (b := b.frm) (run_part ty3 rfl) (run_part ty3 rfl) (fun w => run_equalIn_int w 9998 3 .i64 .i64 a.frm b.frm Try.underlying3) (eqItems_int (P := Try.prog) (d := 9999) (e := 3) (c := 1) (i := 2) (xs := #[.int .i64 a.kind, .int .i64 a.frm, .int .i64 a.to, .int .i64 a.req, .int .i64 a.owner, .int .i64 a.n]) (ys := #[.int .i64 b.kind, .int .i64 b.frm, .int .i64 b.to, .int .i64 b.req, .int .i64 b.owner, .int .i64 b.n]) (a := a.to) (b := b.to) (run_part ty3 rfl) (run_part ty3 rfl) (fun w => run_equalIn_int w 9998 3 .i64 .i64 a.to b.to Try.underlying3) (eqItems_int (P := Try.prog) (d := 9999) (e := 3) (c := 1) (i := 3) (xs := #[.int .i64 a.kind, .int .i64 a.frm, .int .i64 a.to, .int .i64 a.req, .int .i64 a.owner, .int .i64 a.n]) (ys := #[.int .i64 b.kind, .int .i64 b.frm, .int .i64 b.to, .int .i64 b.req, .int .i64 b.owner, .int .i64 b.n]) (a := a.req) (b := b.req) (run_part ty3 rfl) (run_part ty3 rfl) (fun w => run_equalIn_int w 9998 3 .i64 .i64 a.req b.req Try.underlying3) (eqItems_int (P := Try.prog) (d := 9999) (e := 3) (c := 1) (i := 4) (xs := #[.int .i64 a.kind, .int .i64 a.frm, .int .i64 a.to, .int .i64 a.req, .int .i64 a.owner, .int .i64 a.n]) (ys := #[.int .i64 b.kind, .int .i64 b.frm, .int .i64 b.to, .int .i64 b.req, .int .i64 b.owner, .int .i64 b.n]) (a := a.owner) (b := b.owner) (run_part ty3 rfl) (run_part ty3 rfl) (fun w => run_equalIn_int w 9998 3 .i64 .i64 a.owner b.owner Try.underlying3) (eqItems_int (P := Try.prog) (d := 9999) (e := 3) (c := 1) (i := 5) (xs := #[.int .i64 a.kind, .int .i64 a.frm, .int .i64 a.to, .int .i64 a.req, .int .i64 a.owner, .int .i64 a.n]) (ys := #[.int .i64 b.kind, .int .i64 b.frm, .int .i64 b.to, .int .i64 b.req, .int .i64 b.owner, .int .i64 b.n]) (a := a.n) (b := b.n) (run_part ty3 rfl) (run_part ty3 rfl) (fun w => run_equalIn_int w 9998 3 .i64 .i64 a.n b.n Try.underlying3) (fun w => by simp [Op.eqItems] : ∀ w, (Op.eqItems 9999 3 1 #[.int .i64 a.kind, .int .i64 a.frm, .int .i64 a.to, .int .i64 a.req, .int .i64 a.owner, .int .i64 a.n] #[.int .i64 b.kind, .int .i64 b.frm, .int .i64 b.to, .int .i64 b.req, .int .i64 b.owner, .int .i64 b.n] []).run Try.prog w = .ok true w))))))) w
  refine h.trans (h2.trans ?_)
  congr 1
  rw [Bool.eq_iff_iff]
  simp only [Bool.and_eq_true, beq_iff_eq, and_true, decide_eq_true_eq]
  exact ⟨fun h => Six.ext' h.1 h.2.1 h.2.2.1 h.2.2.2.1 h.2.2.2.2.1 h.2.2.2.2.2, fun h => by subst h; exact ⟨rfl, rfl, rfl, rfl, rfl, rfl⟩⟩

structure Bare (x : MsgC) : Prop where
  key : x.key = ⟨#[]⟩
  part : x.part = 0
  entries : x.entries.len = 0
  marks : x.marks.len = 0
  cloud : x.cloud.len = 0
  members : x.members.len = 0
  peers : x.peers.len = 0
  sums : x.sums.len = 0
theorem bare_mk (k f t r o n : Int) : Bare (mkMsg k f t r o n) := ⟨rfl, rfl, rfl, rfl, rfl, rfl, rfl, rfl⟩
def AllBare (l : List MsgC) : Prop := ∀ m ∈ l, Bare m
theorem bare_nil : AllBare [] := fun _ h => by simp at h
theorem bare_app {a b : List MsgC} (h1 : AllBare a) (h2 : AllBare b) : AllBare (a ++ b) := fun m h => (List.mem_append.1 h).elim (h1 m) (h2 m)
theorem bare_one (k f t r o n : Int) : AllBare [mkMsg k f t r o n] := fun m h => by simp only [List.mem_singleton] at h; subst h; exact bare_mk ..
theorem bare_wai (T : Tab) : ∀ i, i ≤ T.pings.length → AllBare (waiI T i).out := by
  refine tf_ind (fun _ (s : Wai) => AllBare s.out) bare_nil ?_
  intro i x s _ h
  unfold wai1
  split
  · exact h
  · split
    · refine bare_app h ?_
      intro m hm
      simp only [asks, List.mem_map] at hm
      obtain ⟨n, _, rfl⟩ := hm
      exact bare_mk ..
    · split
      · exact h
      · split <;> exact h
theorem bare_waited (T : Tab) : AllBare (waitedT T).out := bare_wai T T.pings.length (Nat.le_refl _)
theorem bare_begin (T : Tab) : AllBare (beginT T).2 := by
  unfold beginT
  split
  · exact bare_nil
  · split
    · exact bare_nil
    · exact bare_one _ _ _ _ _ _
section
attribute [local irreducible] oldT waitedT beginT passT
theorem tick_out (T : Tab) (t : Int) : (tick T t).out = (waitedT (oldT (passT T t)).1).out ++ (beginT (waitedT (oldT (passT T t)).1).T).2 := rfl
end
theorem bare_tick (T : Tab) (t : Int) : AllBare (tick T t).out := by
  rw [tick_out]
  exact bare_app (bare_waited _) (bare_begin _)
theorem bare_pinged (T : Tab) (m : MsgC) : AllBare (pingedT T m) := by
  unfold pingedT
  split
  · exact bare_one _ _ _ _ _ _
  · split
    · exact bare_one _ _ _ _ _ _
    · exact bare_nil
theorem bare_ponged (T : Tab) (m : MsgC) : AllBare (pongedT T m).2 := by
  unfold pongedT
  split
  · exact bare_nil
  · split
    · exact bare_one _ _ _ _ _ _
    · exact bare_nil
theorem bare_on (T : Tab) (m : MsgC) (t : Int) : AllBare (on T m t).out := by
  unfold on
  split
  · exact bare_nil
  · simp only
    split
    · exact bare_pinged _ _
    · exact bare_ponged _ _
attribute [local irreducible] tick on hear

theorem ty9 : Ty Try.prog 9 1 16 (.string (⟨#[]⟩)) false := ty_of (by kernel_rfl) (by kernel_rfl)
theorem ty49 : Ty Try.prog 49 1 24 (.slice (none) (0) (0)) false := ty_of (by kernel_rfl) (by kernel_rfl)
theorem ty50 : Ty Try.prog 50 1 24 (.slice (none) (0) (0)) false := ty_of (by kernel_rfl) (by kernel_rfl)
theorem ty51 : Ty Try.prog 51 1 24 (.slice (none) (0) (0)) false := ty_of (by kernel_rfl) (by kernel_rfl)
theorem ty53 : Ty Try.prog 53 2 48 (.agg #[.slice (none) (0) (0), .slice (none) (0) (0)]) true := ty_of (by kernel_rfl) (by kernel_rfl)
theorem ty55 : Ty Try.prog 55 3 72 (.agg #[.slice (none) (0) (0), .slice (none) (0) (0), .slice (none) (0) (0)]) true := ty_of (by kernel_rfl) (by kernel_rfl)
theorem ty56 : Ty Try.prog 56 1 24 (.slice (none) (0) (0)) false := ty_of (by kernel_rfl) (by kernel_rfl)
theorem ty58 : Ty Try.prog 58 4 48 (.agg #[.int .i64 (0), .int .i64 (0), .int .i64 (0), .slice (none) (0) (0)]) true := ty_of (by kernel_rfl) (by kernel_rfl)
theorem ty59 : Ty Try.prog 59 1 24 (.slice (none) (0) (0)) false := ty_of (by kernel_rfl) (by kernel_rfl)
theorem ty101 : Ty Try.prog 101 6 48 (.agg #[.int .i64 (0), .int .i64 (0), .int .i64 (0), .int .i64 (0), .int .i64 (0), .int .i64 (0)]) true := ty_of (by kernel_rfl) (by kernel_rfl)
theorem en58 : Enters Try.prog 58 := enters_of Try.func58 rfl (by kernel_rfl)
theorem en59 : Enters Try.prog 59 := enters_of Try.func59 rfl (by kernel_rfl)

set_option maxRecDepth 100000 in
set_option maxHeartbeats 4000000 in
theorem plain_ (x : MsgC) (w : World) :
    Calls Try.prog 58 #[.agg #[.int .i64 ((x).kind), .int .i64 ((x).frm), .int .i64 ((x).to), .int .i64 ((x).req), .string ((x).key), .slice ((x).entries.a) ((x).entries.len) ((x).entries.cap), .slice ((x).marks.a) ((x).marks.len) ((x).marks.cap), .slice ((x).cloud.a) ((x).cloud.len) ((x).cloud.cap), .int .i64 ((x).owner), .int .i64 ((x).part), .int .i64 ((x).n), .int .i64 ((x).rparts), .int .i64 ((x).rcopies), .int .i64 ((x).rspots), .slice ((x).members.a) ((x).members.len) ((x).members.cap), .slice ((x).peers.a) ((x).peers.len) ((x).peers.cap), .slice ((x).sums.a) ((x).sums.len) ((x).sums.cap)]] w (Ret (fun v w' => v = .agg #[.int .i64 x.kind, .int .i64 x.frm, .int .i64 x.to, .int .i64 x.req, .int .i64 x.owner, .int .i64 x.n] ∧ Ext w w')) := by
  refine calls_run (n := 16) Try.func58 rfl rfl rfl ?_
  refine Run.seq ?_
  refine Run.region ?_
  refine RL.st rfl <| St1.box (v := .agg #[.int .i64 ((x).kind), .int .i64 ((x).frm), .int .i64 ((x).to), .int .i64 ((x).req), .string ((x).key), .slice ((x).entries.a) ((x).entries.len) ((x).entries.cap), .slice ((x).marks.a) ((x).marks.len) ((x).marks.cap), .slice ((x).cloud.a) ((x).cloud.len) ((x).cloud.cap), .int .i64 ((x).owner), .int .i64 ((x).part), .int .i64 ((x).n), .int .i64 ((x).rparts), .int .i64 ((x).rcopies), .int .i64 ((x).rspots), .slice ((x).members.a) ((x).members.len) ((x).members.cap), .slice ((x).peers.a) ((x).peers.len) ((x).peers.cap), .slice ((x).sums.a) ((x).sums.len) ((x).sums.cap)]) rfl ?_
  intro b_1 w_2 hl_5 hb_4 K_3
  replace hb_4 : Blk w_2 b_1 [.int .i64 ((x).kind), .int .i64 ((x).frm), .int .i64 ((x).to), .int .i64 ((x).req), .string ((x).key), .slice ((x).entries.a) ((x).entries.len) ((x).entries.cap), .slice ((x).marks.a) ((x).marks.len) ((x).marks.cap), .slice ((x).cloud.a) ((x).cloud.len) ((x).cloud.cap), .int .i64 ((x).owner), .int .i64 ((x).part), .int .i64 ((x).n), .int .i64 ((x).rparts), .int .i64 ((x).rcopies), .int .i64 ((x).rspots), .slice ((x).members.a) ((x).members.len) ((x).members.cap), .slice ((x).peers.a) ((x).peers.len) ((x).peers.cap), .slice ((x).sums.a) ((x).sums.len) ((x).sums.cap)] 61 := hb_4
  have : w.heap.size ≤ b_1 := hl_5
  clear hl_5
  have K0 := (K_3 : Ext w _)
  refine RL.st rfl <| St1.alloc ty101 ?_
  intro b_6 w_7 hl_10 hb_9 K_8
  replace hb_9 : Blk w_7 b_6 [.int .i64 (0), .int .i64 (0), .int .i64 (0), .int .i64 (0), .int .i64 (0), .int .i64 (0)] 101 := hb_9
  have ne_11 : b_1 < b_6 := Nat.lt_of_lt_of_le hb_4.lt hl_10
  have : w.heap.size ≤ b_6 := Nat.le_trans K0.size hl_10
  clear hl_10
  replace hb_4 := hb_4.ext K_8
  replace K0 := K0.ext K_8
  refine RL.nil ?_
  refine Run.seq ?_
  refine Run.region ?_
  refine RL.val (x_fld (o' := 0) Try.underlying61 rfl ty3 rfl rfl rfl) ?_
  refine RL.val (x_ld (v := .int .i64 ((x).kind)) ty3 rfl rfl (hb_4.cl.field (i := 0) rfl)) ?_
  refine RL.val (x_fld (o' := 1) Try.underlying61 rfl ty3 rfl rfl rfl) ?_
  refine RL.val (x_ld (v := .int .i64 ((x).frm)) ty3 rfl rfl (hb_4.cl.field (i := 1) rfl)) ?_
  refine RL.val (x_fld (o' := 2) Try.underlying61 rfl ty3 rfl rfl rfl) ?_
  refine RL.val (x_ld (v := .int .i64 ((x).to)) ty3 rfl rfl (hb_4.cl.field (i := 2) rfl)) ?_
  refine RL.val (x_fld (o' := 3) Try.underlying61 rfl ty3 rfl rfl rfl) ?_
  refine RL.val (x_ld (v := .int .i64 ((x).req)) ty3 rfl rfl (hb_4.cl.field (i := 3) rfl)) ?_
  refine RL.val (x_fld (o' := 8) Try.underlying61 rfl ty3 rfl rfl rfl) ?_
  refine RL.val (x_ld (v := .int .i64 ((x).owner)) ty3 rfl rfl (hb_4.cl.field (i := 8) rfl)) ?_
  refine RL.val (x_fld (o' := 10) Try.underlying61 rfl ty3 rfl rfl rfl) ?_
  refine RL.val (x_ld (v := .int .i64 ((x).n)) ty3 rfl rfl (hb_4.cl.field (i := 10) rfl)) ?_
  refine RL.val (x_build (cells := #[.int .i64 ((x).kind), .int .i64 ((x).frm), .int .i64 ((x).to), .int .i64 ((x).req), .int .i64 ((x).owner), .int .i64 ((x).n)]) (by kernel_rfl)) ?_
  refine RL.st rfl <| St1.store (v := .agg #[.int .i64 ((x).kind), .int .i64 ((x).frm), .int .i64 ((x).to), .int .i64 ((x).req), .int .i64 ((x).owner), .int .i64 ((x).n)]) ty101 rfl rfl rfl (by simp [Value.cells, Value.oneCell']) hb_9 (by simp) ?_
  intro w_12 hb_9_ K_13
  have hb_9' : Blk w_12 b_6 [.int .i64 ((x).kind), .int .i64 ((x).frm), .int .i64 ((x).to), .int .i64 ((x).req), .int .i64 ((x).owner), .int .i64 ((x).n)] 101 := hb_9_
  clear hb_9_
  replace hb_4 := hb_4.keep K_13 (by simp only [one]; omega)
  replace K0 := K0.new K_13 (fun x hx => by simp only [one] at hx; omega)
  replace hb_9 := hb_9'
  clear hb_9'
  refine RL.nil ?_
  refine Run.retC (cs := #[.int .i64 ((x).kind), .int .i64 ((x).frm), .int .i64 ((x).to), .int .i64 ((x).req), .int .i64 ((x).owner), .int .i64 ((x).n)]) Try.func58 rfl ty101 rfl rfl hb_9.cl ?_
  exact ⟨_, rfl, rfl, K0⟩

set_option maxRecDepth 100000 in
set_option maxHeartbeats 4000000 in
theorem bare_ (x : MsgC) (w : World) (hB : Bare x) :
    Calls Try.prog 59 #[.agg #[.int .i64 ((x).kind), .int .i64 ((x).frm), .int .i64 ((x).to), .int .i64 ((x).req), .string ((x).key), .slice ((x).entries.a) ((x).entries.len) ((x).entries.cap), .slice ((x).marks.a) ((x).marks.len) ((x).marks.cap), .slice ((x).cloud.a) ((x).cloud.len) ((x).cloud.cap), .int .i64 ((x).owner), .int .i64 ((x).part), .int .i64 ((x).n), .int .i64 ((x).rparts), .int .i64 ((x).rcopies), .int .i64 ((x).rspots), .slice ((x).members.a) ((x).members.len) ((x).members.cap), .slice ((x).peers.a) ((x).peers.len) ((x).peers.cap), .slice ((x).sums.a) ((x).sums.len) ((x).sums.cap)]] w (Ret (fun v w' => v = .bool true ∧ Ext w w')) := by
  have hb1 := hB.entries
  have hb2 := hB.marks
  have hb3 := hB.cloud
  have hb4 := hB.members
  have hb5 := hB.peers
  have hb6 := hB.sums
  refine calls_run (n := 43) Try.func59 rfl rfl rfl ?_
  refine Run.seq ?_
  refine Run.region ?_
  refine RL.st rfl <| St1.box (v := .agg #[.int .i64 ((x).kind), .int .i64 ((x).frm), .int .i64 ((x).to), .int .i64 ((x).req), .string ((x).key), .slice ((x).entries.a) ((x).entries.len) ((x).entries.cap), .slice ((x).marks.a) ((x).marks.len) ((x).marks.cap), .slice ((x).cloud.a) ((x).cloud.len) ((x).cloud.cap), .int .i64 ((x).owner), .int .i64 ((x).part), .int .i64 ((x).n), .int .i64 ((x).rparts), .int .i64 ((x).rcopies), .int .i64 ((x).rspots), .slice ((x).members.a) ((x).members.len) ((x).members.cap), .slice ((x).peers.a) ((x).peers.len) ((x).peers.cap), .slice ((x).sums.a) ((x).sums.len) ((x).sums.cap)]) rfl ?_
  intro b_1 w_2 hl_5 hb_4 K_3
  replace hb_4 : Blk w_2 b_1 [.int .i64 ((x).kind), .int .i64 ((x).frm), .int .i64 ((x).to), .int .i64 ((x).req), .string ((x).key), .slice ((x).entries.a) ((x).entries.len) ((x).entries.cap), .slice ((x).marks.a) ((x).marks.len) ((x).marks.cap), .slice ((x).cloud.a) ((x).cloud.len) ((x).cloud.cap), .int .i64 ((x).owner), .int .i64 ((x).part), .int .i64 ((x).n), .int .i64 ((x).rparts), .int .i64 ((x).rcopies), .int .i64 ((x).rspots), .slice ((x).members.a) ((x).members.len) ((x).members.cap), .slice ((x).peers.a) ((x).peers.len) ((x).peers.cap), .slice ((x).sums.a) ((x).sums.len) ((x).sums.cap)] 61 := hb_4
  have : w.heap.size ≤ b_1 := hl_5
  clear hl_5
  have K0 := (K_3 : Ext w _)
  refine RL.val (x_assignB rfl) ?_
  refine RL.nil ?_
  refine Run.seq ?_
  refine Run.region ?_
  refine RL.val (x_fld (o' := 4) Try.underlying61 rfl ty9 rfl rfl rfl) ?_
  refine RL.val (x_ld (v := .string ((x).key)) ty9 rfl rfl (hb_4.cl.field (i := 4) rfl)) ?_
  refine RL.val (litT (x_eqS rfl rfl) (decide_eq_true hB.key)) ?_
  refine RL.val (x_moveB rfl) ?_
  refine RL.gst (wantedT1 rfl rfl rfl rfl) <| St1.val (x_fld (o' := 9) Try.underlying61 rfl ty3 rfl rfl rfl) ?_
  refine RL.gst (wantedT1 rfl rfl rfl rfl) <| St1.val (x_ld (v := .int .i64 ((x).part)) ty3 rfl rfl (hb_4.cl.field (i := 9) rfl)) ?_
  refine RL.gst (wantedT1 rfl rfl rfl rfl) <| St1.val (litT (x_eqI rfl rfl) (by simp [hB.part])) ?_
  refine RL.val (x_andT rfl rfl rfl) ?_
  refine RL.val (x_moveB rfl) ?_
  refine RL.gst (wantedT1 rfl rfl rfl rfl) <| St1.val (x_fld (o' := 5) Try.underlying61 rfl ty55 rfl rfl rfl) ?_
  refine RL.gst (wantedT1 rfl rfl rfl rfl) <| St1.val (x_fld (o' := 5) Try.underlying55 rfl ty49 rfl rfl rfl) ?_
  refine RL.gst (wantedT1 rfl rfl rfl rfl) <| St1.val (x_ld (v := .slice ((x).entries.a) ((x).entries.len) ((x).entries.cap)) ty49 rfl rfl (hb_4.cl.field (i := 5) rfl)) ?_
  refine RL.gst (wantedT1 rfl rfl rfl rfl) <| St1.val (x_lenSl Try.underlying49 rfl) ?_
  refine RL.gst (wantedT1 rfl rfl rfl rfl) <| St1.val (x_fld (o' := 5) Try.underlying61 rfl ty55 rfl rfl rfl) ?_
  refine RL.gst (wantedT1 rfl rfl rfl rfl) <| St1.val (x_fld (o' := 6) Try.underlying55 rfl ty53 rfl rfl rfl) ?_
  refine RL.gst (wantedT1 rfl rfl rfl rfl) <| St1.val (x_fld (o' := 6) Try.underlying53 rfl ty50 rfl rfl rfl) ?_
  refine RL.gst (wantedT1 rfl rfl rfl rfl) <| St1.val (x_ld (v := .slice ((x).marks.a) ((x).marks.len) ((x).marks.cap)) ty50 rfl rfl (hb_4.cl.field (i := 6) rfl)) ?_
  refine RL.gst (wantedT1 rfl rfl rfl rfl) <| St1.val (x_lenSl Try.underlying50 rfl) ?_
  refine RL.gst (wantedT1 rfl rfl rfl rfl) <| St1.val (litI (c := (((x).entries.len + ((x).marks.len) : Nat) : Int)) (x_add rfl rfl (by omega) (by omega)) rfl) ?_
  refine RL.gst (wantedT1 rfl rfl rfl rfl) <| St1.val (x_fld (o' := 5) Try.underlying61 rfl ty55 rfl rfl rfl) ?_
  refine RL.gst (wantedT1 rfl rfl rfl rfl) <| St1.val (x_fld (o' := 6) Try.underlying55 rfl ty53 rfl rfl rfl) ?_
  refine RL.gst (wantedT1 rfl rfl rfl rfl) <| St1.val (x_fld (o' := 7) Try.underlying53 rfl ty51 rfl rfl rfl) ?_
  refine RL.gst (wantedT1 rfl rfl rfl rfl) <| St1.val (x_ld (v := .slice ((x).cloud.a) ((x).cloud.len) ((x).cloud.cap)) ty51 rfl rfl (hb_4.cl.field (i := 7) rfl)) ?_
  refine RL.gst (wantedT1 rfl rfl rfl rfl) <| St1.val (x_lenSl Try.underlying51 rfl) ?_
  refine RL.gst (wantedT1 rfl rfl rfl rfl) <| St1.val (litI (c := ((((x).entries.len + ((x).marks.len)) + ((x).cloud.len) : Nat) : Int)) (x_add rfl rfl (by omega) (by omega)) rfl) ?_
  refine RL.gst (wantedT1 rfl rfl rfl rfl) <| St1.val (x_fld (o' := 11) Try.underlying61 rfl ty58 rfl rfl rfl) ?_
  refine RL.gst (wantedT1 rfl rfl rfl rfl) <| St1.val (x_fld (o' := 14) Try.underlying58 rfl ty56 rfl rfl rfl) ?_
  refine RL.gst (wantedT1 rfl rfl rfl rfl) <| St1.val (x_ld (v := .slice ((x).members.a) ((x).members.len) ((x).members.cap)) ty56 rfl rfl (hb_4.cl.field (i := 14) rfl)) ?_
  refine RL.gst (wantedT1 rfl rfl rfl rfl) <| St1.val (x_lenSl Try.underlying56 rfl) ?_
  refine RL.gst (wantedT1 rfl rfl rfl rfl) <| St1.val (litI (c := (((((x).entries.len + ((x).marks.len)) + ((x).cloud.len)) + ((x).members.len) : Nat) : Int)) (x_add rfl rfl (by omega) (by omega)) rfl) ?_
  refine RL.gst (wantedT1 rfl rfl rfl rfl) <| St1.val (x_fld (o' := 15) Try.underlying61 rfl ty32 rfl rfl rfl) ?_
  refine RL.gst (wantedT1 rfl rfl rfl rfl) <| St1.val (x_ld (v := .slice ((x).peers.a) ((x).peers.len) ((x).peers.cap)) ty32 rfl rfl (hb_4.cl.field (i := 15) rfl)) ?_
  refine RL.gst (wantedT1 rfl rfl rfl rfl) <| St1.val (x_lenSl Try.underlying32 rfl) ?_
  refine RL.gst (wantedT1 rfl rfl rfl rfl) <| St1.val (litI (c := ((((((x).entries.len + ((x).marks.len)) + ((x).cloud.len)) + ((x).members.len)) + ((x).peers.len) : Nat) : Int)) (x_add rfl rfl (by omega) (by omega)) rfl) ?_
  refine RL.gst (wantedT1 rfl rfl rfl rfl) <| St1.val (x_fld (o' := 16) Try.underlying61 rfl ty59 rfl rfl rfl) ?_
  refine RL.gst (wantedT1 rfl rfl rfl rfl) <| St1.val (x_ld (v := .slice ((x).sums.a) ((x).sums.len) ((x).sums.cap)) ty59 rfl rfl (hb_4.cl.field (i := 16) rfl)) ?_
  refine RL.gst (wantedT1 rfl rfl rfl rfl) <| St1.val (x_lenSl Try.underlying59 rfl) ?_
  refine RL.gst (wantedT1 rfl rfl rfl rfl) <| St1.val (litI (c := (((((((x).entries.len + ((x).marks.len)) + ((x).cloud.len)) + ((x).members.len)) + ((x).peers.len)) + ((x).sums.len) : Nat) : Int)) (x_add rfl rfl (by omega) (by omega)) rfl) ?_
  refine RL.gst (wantedT1 rfl rfl rfl rfl) <| St1.val (litT (x_eqI rfl rfl) (by simp only [beq_iff_eq]; omega)) ?_
  refine RL.val (x_andT rfl rfl rfl) ?_
  refine RL.val (x_assignB rfl) ?_
  refine RL.nil ?_
  refine Run.ret1 (v := .bool (true)) Try.func59 rfl rfl ?_
  exact ⟨_, rfl, rfl, K0⟩

set_option maxRecDepth 100000 in
set_option maxHeartbeats 4000000 in
theorem same1_ (x : MsgC) (w : World) (hB : Bare x) :
    Calls Try.prog 57 #[.agg #[.int .i64 ((x).kind), .int .i64 ((x).frm), .int .i64 ((x).to), .int .i64 ((x).req), .string ((x).key), .slice ((x).entries.a) ((x).entries.len) ((x).entries.cap), .slice ((x).marks.a) ((x).marks.len) ((x).marks.cap), .slice ((x).cloud.a) ((x).cloud.len) ((x).cloud.cap), .int .i64 ((x).owner), .int .i64 ((x).part), .int .i64 ((x).n), .int .i64 ((x).rparts), .int .i64 ((x).rcopies), .int .i64 ((x).rspots), .slice ((x).members.a) ((x).members.len) ((x).members.cap), .slice ((x).peers.a) ((x).peers.len) ((x).peers.cap), .slice ((x).sums.a) ((x).sums.len) ((x).sums.cap)], .agg #[.int .i64 ((x).kind), .int .i64 ((x).frm), .int .i64 ((x).to), .int .i64 ((x).req), .string ((x).key), .slice ((x).entries.a) ((x).entries.len) ((x).entries.cap), .slice ((x).marks.a) ((x).marks.len) ((x).marks.cap), .slice ((x).cloud.a) ((x).cloud.len) ((x).cloud.cap), .int .i64 ((x).owner), .int .i64 ((x).part), .int .i64 ((x).n), .int .i64 ((x).rparts), .int .i64 ((x).rcopies), .int .i64 ((x).rspots), .slice ((x).members.a) ((x).members.len) ((x).members.cap), .slice ((x).peers.a) ((x).peers.len) ((x).peers.cap), .slice ((x).sums.a) ((x).sums.len) ((x).sums.cap)]] w (Ret (fun v w' => v = .bool true ∧ Ext w w')) := by
  refine calls_run (n := 14) Try.func57 rfl rfl rfl ?_
  refine Run.seq ?_
  refine Run.region ?_
  refine RL.st rfl <| St1.box (v := .agg #[.int .i64 ((x).kind), .int .i64 ((x).frm), .int .i64 ((x).to), .int .i64 ((x).req), .string ((x).key), .slice ((x).entries.a) ((x).entries.len) ((x).entries.cap), .slice ((x).marks.a) ((x).marks.len) ((x).marks.cap), .slice ((x).cloud.a) ((x).cloud.len) ((x).cloud.cap), .int .i64 ((x).owner), .int .i64 ((x).part), .int .i64 ((x).n), .int .i64 ((x).rparts), .int .i64 ((x).rcopies), .int .i64 ((x).rspots), .slice ((x).members.a) ((x).members.len) ((x).members.cap), .slice ((x).peers.a) ((x).peers.len) ((x).peers.cap), .slice ((x).sums.a) ((x).sums.len) ((x).sums.cap)]) rfl ?_
  intro b_1 w_2 hl_5 hb_4 K_3
  replace hb_4 : Blk w_2 b_1 [.int .i64 ((x).kind), .int .i64 ((x).frm), .int .i64 ((x).to), .int .i64 ((x).req), .string ((x).key), .slice ((x).entries.a) ((x).entries.len) ((x).entries.cap), .slice ((x).marks.a) ((x).marks.len) ((x).marks.cap), .slice ((x).cloud.a) ((x).cloud.len) ((x).cloud.cap), .int .i64 ((x).owner), .int .i64 ((x).part), .int .i64 ((x).n), .int .i64 ((x).rparts), .int .i64 ((x).rcopies), .int .i64 ((x).rspots), .slice ((x).members.a) ((x).members.len) ((x).members.cap), .slice ((x).peers.a) ((x).peers.len) ((x).peers.cap), .slice ((x).sums.a) ((x).sums.len) ((x).sums.cap)] 61 := hb_4
  have : w.heap.size ≤ b_1 := hl_5
  clear hl_5
  have K0 := (K_3 : Ext w _)
  refine RL.st rfl <| St1.box (v := .agg #[.int .i64 ((x).kind), .int .i64 ((x).frm), .int .i64 ((x).to), .int .i64 ((x).req), .string ((x).key), .slice ((x).entries.a) ((x).entries.len) ((x).entries.cap), .slice ((x).marks.a) ((x).marks.len) ((x).marks.cap), .slice ((x).cloud.a) ((x).cloud.len) ((x).cloud.cap), .int .i64 ((x).owner), .int .i64 ((x).part), .int .i64 ((x).n), .int .i64 ((x).rparts), .int .i64 ((x).rcopies), .int .i64 ((x).rspots), .slice ((x).members.a) ((x).members.len) ((x).members.cap), .slice ((x).peers.a) ((x).peers.len) ((x).peers.cap), .slice ((x).sums.a) ((x).sums.len) ((x).sums.cap)]) rfl ?_
  intro b_6 w_7 hl_10 hb_9 K_8
  replace hb_9 : Blk w_7 b_6 [.int .i64 ((x).kind), .int .i64 ((x).frm), .int .i64 ((x).to), .int .i64 ((x).req), .string ((x).key), .slice ((x).entries.a) ((x).entries.len) ((x).entries.cap), .slice ((x).marks.a) ((x).marks.len) ((x).marks.cap), .slice ((x).cloud.a) ((x).cloud.len) ((x).cloud.cap), .int .i64 ((x).owner), .int .i64 ((x).part), .int .i64 ((x).n), .int .i64 ((x).rparts), .int .i64 ((x).rcopies), .int .i64 ((x).rspots), .slice ((x).members.a) ((x).members.len) ((x).members.cap), .slice ((x).peers.a) ((x).peers.len) ((x).peers.cap), .slice ((x).sums.a) ((x).sums.len) ((x).sums.cap)] 61 := hb_9
  have ne_11 : b_1 < b_6 := Nat.lt_of_lt_of_le hb_4.lt hl_10
  have : w.heap.size ≤ b_6 := Nat.le_trans K0.size hl_10
  clear hl_10
  replace hb_4 := hb_4.ext K_8
  replace K0 := K0.ext K_8
  refine RL.val (x_assignB rfl) ?_
  refine RL.nil ?_
  refine Run.seq ?_
  refine Run.drawT [] (m := 10) (by kernel_rfl) rfl ?_
  intro w_12 K_13
  replace hb_4 := hb_4.ext K_13
  replace hb_9 := hb_9.ext K_13
  replace K0 := K0.ext K_13
  refine ⟨fun w' => Blk w' b_1 [.int .i64 ((x).kind), .int .i64 ((x).frm), .int .i64 ((x).to), .int .i64 ((x).req), .string ((x).key), .slice ((x).entries.a) ((x).entries.len) ((x).entries.cap), .slice ((x).marks.a) ((x).marks.len) ((x).marks.cap), .slice ((x).cloud.a) ((x).cloud.len) ((x).cloud.cap), .int .i64 ((x).owner), .int .i64 ((x).part), .int .i64 ((x).n), .int .i64 ((x).rparts), .int .i64 ((x).rcopies), .int .i64 ((x).rspots), .slice ((x).members.a) ((x).members.len) ((x).members.cap), .slice ((x).peers.a) ((x).peers.len) ((x).peers.cap), .slice ((x).sums.a) ((x).sums.len) ((x).sums.cap)] 61 ∧ Blk w' b_6 [.int .i64 ((x).kind), .int .i64 ((x).frm), .int .i64 ((x).to), .int .i64 ((x).req), .string ((x).key), .slice ((x).entries.a) ((x).entries.len) ((x).entries.cap), .slice ((x).marks.a) ((x).marks.len) ((x).marks.cap), .slice ((x).cloud.a) ((x).cloud.len) ((x).cloud.cap), .int .i64 ((x).owner), .int .i64 ((x).part), .int .i64 ((x).n), .int .i64 ((x).rparts), .int .i64 ((x).rcopies), .int .i64 ((x).rspots), .slice ((x).members.a) ((x).members.len) ((x).members.cap), .slice ((x).peers.a) ((x).peers.len) ((x).peers.cap), .slice ((x).sums.a) ((x).sums.len) ((x).sums.cap)] 61 ∧ True, ?_⟩
  refine RT.take (v := .agg #[.int .i64 ((x).kind), .int .i64 ((x).frm), .int .i64 ((x).to), .int .i64 ((x).req), .string ((x).key), .slice ((x).entries.a) ((x).entries.len) ((x).entries.cap), .slice ((x).marks.a) ((x).marks.len) ((x).marks.cap), .slice ((x).cloud.a) ((x).cloud.len) ((x).cloud.cap), .int .i64 ((x).owner), .int .i64 ((x).part), .int .i64 ((x).n), .int .i64 ((x).rparts), .int .i64 ((x).rcopies), .int .i64 ((x).rspots), .slice ((x).members.a) ((x).members.len) ((x).members.cap), .slice ((x).peers.a) ((x).peers.len) ((x).peers.cap), .slice ((x).sums.a) ((x).sums.len) ((x).sums.cap)]) 0 rfl (by kernel_rfl) ⟨hb_4, hb_9, trivial⟩ (by rintro _ ⟨hb_4, hb_9, -⟩; exact (x_lds (cs := #[.int .i64 ((x).kind), .int .i64 ((x).frm), .int .i64 ((x).to), .int .i64 ((x).req), .string ((x).key), .slice ((x).entries.a) ((x).entries.len) ((x).entries.cap), .slice ((x).marks.a) ((x).marks.len) ((x).marks.cap), .slice ((x).cloud.a) ((x).cloud.len) ((x).cloud.cap), .int .i64 ((x).owner), .int .i64 ((x).part), .int .i64 ((x).n), .int .i64 ((x).rparts), .int .i64 ((x).rcopies), .int .i64 ((x).rspots), .slice ((x).members.a) ((x).members.len) ((x).members.cap), .slice ((x).peers.a) ((x).peers.len) ((x).peers.cap), .slice ((x).sums.a) ((x).sums.len) ((x).sums.cap)]) ty61 rfl rfl (hb_4.cl.drop 0 17))) ?_
  refine RT.take (v := .agg #[.int .i64 ((x).kind), .int .i64 ((x).frm), .int .i64 ((x).to), .int .i64 ((x).req), .string ((x).key), .slice ((x).entries.a) ((x).entries.len) ((x).entries.cap), .slice ((x).marks.a) ((x).marks.len) ((x).marks.cap), .slice ((x).cloud.a) ((x).cloud.len) ((x).cloud.cap), .int .i64 ((x).owner), .int .i64 ((x).part), .int .i64 ((x).n), .int .i64 ((x).rparts), .int .i64 ((x).rcopies), .int .i64 ((x).rspots), .slice ((x).members.a) ((x).members.len) ((x).members.cap), .slice ((x).peers.a) ((x).peers.len) ((x).peers.cap), .slice ((x).sums.a) ((x).sums.len) ((x).sums.cap)]) 2 rfl (by kernel_rfl) ⟨hb_4, hb_9, trivial⟩ (by rintro _ ⟨hb_4, hb_9, -⟩; exact (x_lds (cs := #[.int .i64 ((x).kind), .int .i64 ((x).frm), .int .i64 ((x).to), .int .i64 ((x).req), .string ((x).key), .slice ((x).entries.a) ((x).entries.len) ((x).entries.cap), .slice ((x).marks.a) ((x).marks.len) ((x).marks.cap), .slice ((x).cloud.a) ((x).cloud.len) ((x).cloud.cap), .int .i64 ((x).owner), .int .i64 ((x).part), .int .i64 ((x).n), .int .i64 ((x).rparts), .int .i64 ((x).rcopies), .int .i64 ((x).rspots), .slice ((x).members.a) ((x).members.len) ((x).members.cap), .slice ((x).peers.a) ((x).peers.len) ((x).peers.cap), .slice ((x).sums.a) ((x).sums.len) ((x).sums.cap)]) ty61 rfl rfl (hb_9.cl.drop 0 17))) ?_
  refine RT.st 1 rfl (by kernel_rfl) rfl <| St1.call (vals := [.agg #[.int .i64 ((x).kind), .int .i64 ((x).frm), .int .i64 ((x).to), .int .i64 ((x).req), .string ((x).key), .slice ((x).entries.a) ((x).entries.len) ((x).entries.cap), .slice ((x).marks.a) ((x).marks.len) ((x).marks.cap), .slice ((x).cloud.a) ((x).cloud.len) ((x).cloud.cap), .int .i64 ((x).owner), .int .i64 ((x).part), .int .i64 ((x).n), .int .i64 ((x).rparts), .int .i64 ((x).rcopies), .int .i64 ((x).rspots), .slice ((x).members.a) ((x).members.len) ((x).members.cap), .slice ((x).peers.a) ((x).peers.len) ((x).peers.cap), .slice ((x).sums.a) ((x).sums.len) ((x).sums.cap)]]) en58 rfl (plain_ x _) ?_
  rintro _ w_14 ⟨rfl, K_15⟩
  replace hb_4 := hb_4.ext K_15
  replace hb_9 := hb_9.ext K_15
  replace K0 := K0.ext K_15
  refine ⟨.inr ⟨hb_4, hb_9, trivial⟩, ?_⟩
  refine RT.st 3 rfl (by kernel_rfl) rfl <| St1.call (vals := [.agg #[.int .i64 ((x).kind), .int .i64 ((x).frm), .int .i64 ((x).to), .int .i64 ((x).req), .string ((x).key), .slice ((x).entries.a) ((x).entries.len) ((x).entries.cap), .slice ((x).marks.a) ((x).marks.len) ((x).marks.cap), .slice ((x).cloud.a) ((x).cloud.len) ((x).cloud.cap), .int .i64 ((x).owner), .int .i64 ((x).part), .int .i64 ((x).n), .int .i64 ((x).rparts), .int .i64 ((x).rcopies), .int .i64 ((x).rspots), .slice ((x).members.a) ((x).members.len) ((x).members.cap), .slice ((x).peers.a) ((x).peers.len) ((x).peers.cap), .slice ((x).sums.a) ((x).sums.len) ((x).sums.cap)]]) en58 rfl (plain_ x _) ?_
  rintro _ w_16 ⟨rfl, K_17⟩
  replace hb_4 := hb_4.ext K_17
  replace hb_9 := hb_9.ext K_17
  replace K0 := K0.ext K_17
  refine ⟨.inr ⟨hb_4, hb_9, trivial⟩, ?_⟩
  refine RT.takeP (v := .bool (true)) 4 rfl (by kernel_rfl) (.inr ⟨hb_4, hb_9, trivial⟩) (fun _ => (litT (x_eqA (by kernel_rfl) rfl rfl (eq_Six (⟨(x).kind, (x).frm, (x).to, (x).req, (x).owner, (x).n⟩ : Six) (⟨(x).kind, (x).frm, (x).to, (x).req, (x).owner, (x).n⟩ : Six))) (by simp))) ?_
  refine RT.takeP (v := .bool (true)) 5 rfl (by kernel_rfl) (.inr ⟨hb_4, hb_9, trivial⟩) (fun _ => (x_moveB rfl)) ?_
  refine RT.gtake (v := .agg #[.int .i64 ((x).kind), .int .i64 ((x).frm), .int .i64 ((x).to), .int .i64 ((x).req), .string ((x).key), .slice ((x).entries.a) ((x).entries.len) ((x).entries.cap), .slice ((x).marks.a) ((x).marks.len) ((x).marks.cap), .slice ((x).cloud.a) ((x).cloud.len) ((x).cloud.cap), .int .i64 ((x).owner), .int .i64 ((x).part), .int .i64 ((x).n), .int .i64 ((x).rparts), .int .i64 ((x).rcopies), .int .i64 ((x).rspots), .slice ((x).members.a) ((x).members.len) ((x).members.cap), .slice ((x).peers.a) ((x).peers.len) ((x).peers.cap), .slice ((x).sums.a) ((x).sums.len) ((x).sums.cap)]) 6 rfl (by kernel_rfl) ⟨hb_4, hb_9, trivial⟩ (wantedT1 rfl rfl rfl rfl) (fun hg => by rintro _ ⟨hb_4, hb_9, -⟩; exact (x_lds (cs := #[.int .i64 ((x).kind), .int .i64 ((x).frm), .int .i64 ((x).to), .int .i64 ((x).req), .string ((x).key), .slice ((x).entries.a) ((x).entries.len) ((x).entries.cap), .slice ((x).marks.a) ((x).marks.len) ((x).marks.cap), .slice ((x).cloud.a) ((x).cloud.len) ((x).cloud.cap), .int .i64 ((x).owner), .int .i64 ((x).part), .int .i64 ((x).n), .int .i64 ((x).rparts), .int .i64 ((x).rcopies), .int .i64 ((x).rspots), .slice ((x).members.a) ((x).members.len) ((x).members.cap), .slice ((x).peers.a) ((x).peers.len) ((x).peers.cap), .slice ((x).sums.a) ((x).sums.len) ((x).sums.cap)]) ty61 rfl rfl (hb_4.cl.drop 0 17))) ?_
  refine RT.gst 7 rfl (by kernel_rfl) (wantedT1 rfl rfl rfl rfl) <| St1.call (vals := [.agg #[.int .i64 ((x).kind), .int .i64 ((x).frm), .int .i64 ((x).to), .int .i64 ((x).req), .string ((x).key), .slice ((x).entries.a) ((x).entries.len) ((x).entries.cap), .slice ((x).marks.a) ((x).marks.len) ((x).marks.cap), .slice ((x).cloud.a) ((x).cloud.len) ((x).cloud.cap), .int .i64 ((x).owner), .int .i64 ((x).part), .int .i64 ((x).n), .int .i64 ((x).rparts), .int .i64 ((x).rcopies), .int .i64 ((x).rspots), .slice ((x).members.a) ((x).members.len) ((x).members.cap), .slice ((x).peers.a) ((x).peers.len) ((x).peers.cap), .slice ((x).sums.a) ((x).sums.len) ((x).sums.cap)]]) en59 rfl (bare_ x _ hB) ?_
  rintro _ w_18 ⟨rfl, K_19⟩
  replace hb_4 := hb_4.ext K_19
  replace hb_9 := hb_9.ext K_19
  replace K0 := K0.ext K_19
  refine ⟨.inr ⟨hb_4, hb_9, trivial⟩, ?_⟩
  refine RT.takeP (v := .bool (true)) 8 rfl (by kernel_rfl) (.inr ⟨hb_4, hb_9, trivial⟩) (fun _ => (x_andT rfl rfl rfl)) ?_
  refine RT.takeP (v := .bool (true)) 9 rfl (by kernel_rfl) (.inr ⟨hb_4, hb_9, trivial⟩) (fun _ => (x_assignB rfl)) ?_
  refine RT.done (by kernel_rfl) ?_
  refine Run.ret1 (v := .bool (true)) Try.func57 rfl rfl ?_
  exact ⟨_, rfl, rfl, K0⟩

end Go.Proofs.Ytagfdmdajmkddaa
