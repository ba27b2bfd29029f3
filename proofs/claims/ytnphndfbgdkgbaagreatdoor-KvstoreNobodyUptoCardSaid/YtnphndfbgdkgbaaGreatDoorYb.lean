/-
  Layer 7: last, Bytes, frames, swap, cut.
-/
import Derived.Test.YtnphndfbgdkgbaaGreatDoorRows
import Derived.Test.YtnphndfbgdkgbaaGreatDoorYa
namespace Go.Proofs.YtnphndfbgdkgbaaGreatDoor
attribute [local irreducible] St1 RL RA RT RT1 Run
attribute [local irreducible] crcN crcL crcS crcB numL leL unfR nameS segsL sortZ segI segO hasP restP

/-! ### records in memory -/
structure RB where
  a : Option Addr
  c : Nat
  b : List UInt8
def RB.h (r : RB) : SH := ⟨r.a, r.b.length, r.c⟩
def recsS (rs : List RB) : Nat → Prop := fun q => ∃ r ∈ rs, own r.a q
def RecsO (w : World) (rs : List RB) : Prop := ∀ r ∈ rs, OwnSl w 5 r.a r.c r.b
section
variable {w w' : World} {S : Nat → Prop} {rs ss : List RB} {r : RB}
theorem RecsO.own_lt (h : RecsO w rs) : ∀ q, recsS rs q → q < w.heap.size := fun q ⟨r, hr, hq⟩ => (h r hr).own_lt q hq
theorem RecsO.keepO (h : RecsO w rs) (k : Keeps S w w') (hn : ∀ q, recsS rs q → ¬ S q) : RecsO w' rs := fun r hr => (h r hr).keepO k (fun q hq => hn q ⟨r, hr, hq⟩)
theorem RecsO.ext (h : RecsO w rs) (k : Ext w w') : RecsO w' rs := h.keepO k fun _ _ => id
theorem RecsO.nil (w : World) : RecsO w [] := fun _ h => absurd h (by simp)
theorem RecsO.app (h : RecsO w rs) (h2 : RecsO w ss) : RecsO w (rs ++ ss) := fun r hr => (List.mem_append.1 hr).elim (h r) (h2 r)
theorem RecsO.snoc (h : RecsO w rs) {a : Option Addr} {c : Nat} {b : List UInt8} (h2 : OwnSl w 5 a c b) : RecsO w (rs ++ [⟨a, c, b⟩]) := h.app fun r hr => by simp only [List.mem_singleton] at hr; subst hr; exact h2
theorem RecsO.sub (h : RecsO w rs) (hs : ∀ r ∈ ss, r ∈ rs) : RecsO w ss := fun r hr => h r (hs r hr)
theorem recs_case : ∀ q, recsS (rs ++ ss) q → recsS rs q ∨ recsS ss q := fun q ⟨r, hr, hq⟩ => (List.mem_append.1 hr).elim (fun h => .inl ⟨r, h, hq⟩) (fun h => .inr ⟨r, h, hq⟩)
theorem recs_case1 {a : Option Addr} {c : Nat} {b : List UInt8} : ∀ q, recsS (rs ++ [⟨a, c, b⟩]) q → own a q ∨ recsS rs q := fun q h => (recs_case q h).elim .inr (fun ⟨r, hr, hq⟩ => by simp only [List.mem_singleton] at hr; subst hr; exact .inl hq)
theorem recs_sub (hs : ∀ r ∈ ss, r ∈ rs) : ∀ q, recsS ss q → recsS rs q := fun q ⟨r, hr, hq⟩ => ⟨r, hs r hr, hq⟩
theorem recs_at (h : RecsO w rs) {j : Nat} {s : SH} (hs : (rs.map RB.h)[j]? = some s) : ∃ r, rs[j]? = some r ∧ s = r.h ∧ OwnSl w 5 r.a r.c r.b := by
  rw [List.getElem?_map, Option.map_eq_some_iff] at hs
  obtain ⟨r, hr, rfl⟩ := hs
  exact ⟨r, hr, rfl, h r (List.mem_of_getElem? hr)⟩
end
/-- a slice that is read, with its blocks -/
structure SlO (w : World) (a : Option Addr) (xs : List UInt8) : Prop where
  sl : SlOf w a xs
  lt : ∀ q, own a q → q < w.heap.size
theorem SlO.own_lt {w : World} {a : Option Addr} {xs : List UInt8} (h : SlO w a xs) : ∀ q, own a q → q < w.heap.size := h.lt
theorem SlO.keepO {S : Nat → Prop} {w w' : World} {a : Option Addr} {xs : List UInt8} (h : SlO w a xs) (k : Keeps S w w') (hn : ∀ q, own a q → ¬ S q) : SlO w' a xs := ⟨h.sl.keep k (fun x hx => hn _ ⟨x, hx, rfl⟩), fun q hq => Nat.lt_of_lt_of_le (h.lt q hq) k.size⟩
theorem SlO.ext {w w' : World} {a : Option Addr} {xs : List UInt8} (h : SlO w a xs) (k : Ext w w') : SlO w' a xs := h.keepO k fun _ _ => id
theorem OwnSl.slo {w : World} {T : TypeId} {a : Option Addr} {c : Nat} {xs : List UInt8} (h : OwnSl w T a c xs) : SlO w a xs := ⟨h.sl, h.own_lt⟩
/-! ### the frames of bytes -/
def framesR (b : List UInt8) : List (List UInt8) × List UInt8 :=
  if b = [] then ([], []) else match h : unfR b with
  | .error _ => ([], b)
  | .ok (p, r) => (p :: (framesR r).1, (framesR r).2)
termination_by b.length
decreasing_by all_goals (have := (unfR_len h).1; omega)
theorem framesR_nil : framesR [] = ([], []) := by rw [framesR]; simp
theorem framesR_err {b : List UInt8} {e : Int} (h0 : b ≠ []) (h : unfR b = .error e) : framesR b = ([], b) := by
  rw [framesR, if_neg h0]
  split
  · rfl
  · rename_i h2; rw [h] at h2; cases h2
theorem framesR_ok {b p r : List UInt8} (h0 : b ≠ []) (h : unfR b = .ok (p, r)) : framesR b = (p :: (framesR r).1, (framesR r).2) := by
  rw [framesR, if_neg h0]
  split
  · rename_i h2; rw [h] at h2; cases h2
  · rename_i h2; rw [h] at h2; cases h2; rfl
theorem framesR_len : ∀ (b : List UInt8), (framesR b).1.length * 5 + (framesR b).2.length ≤ b.length := fun b => by
  induction hb : b.length using Nat.strongRecOn generalizing b with
  | _ k ih =>
    by_cases h0 : b = []
    · subst h0; rw [framesR_nil]; simp
    cases h : unfR b with
    | error e => rw [framesR_err h0 h]; simp; omega
    | ok q =>
      obtain ⟨p, r⟩ := q
      have h2 := (unfR_len h).1
      have := ih r.length (by omega) r rfl
      rw [framesR_ok h0 h]
      simp only [List.length_cons]
      omega
theorem ne_of_len {b : List UInt8} (h : 0 < b.length) : b ≠ [] := fun e => by subst e; exact absurd h (by decide)
/-! ### what is done to files -/
def freshN : ByteArray := ⟨#[108, 111, 103, 46, 110, 101, 119]⟩
noncomputable def lastP (pl : List PF) : Int := ((segsL pl).getLast?).getD 0
def swapP (room : Int) (pl : List PF) (b : List UInt8) (n : Int) : Int × List PF :=
  if appE room pl freshN b = 0 then
    if lookE (appL room pl freshN b) freshN = 0 then (renE (syncL (appL room pl freshN b) freshN) freshN (nameS n), renL (syncL (appL room pl freshN b) freshN) freshN (nameS n))
    else (lookE (appL room pl freshN b) freshN, syncL (appL room pl freshN b) freshN)
  else (appE room pl freshN b, appL room pl freshN b)
def remsL (pl : List PF) (ns : List Int) : List PF := pl.filter fun f => !ns.any fun n => decide (f.name = nameS n)
def cutP (room : Int) (pl : List PF) (b : List UInt8) (n : Int) (rest : List Int) : Int × List PF :=
  if b = [] then (0, remsL (remL pl (nameS n)) rest) else if (swapP room pl b n).1 = 0 then (0, remsL (swapP room pl b n).2 rest) else swapP room pl b n
theorem remsL_nil (pl : List PF) : remsL pl [] = pl := by rw [remsL, List.filter_eq_self]; simp
theorem remsL_cons (pl : List PF) (n : Int) (ns : List Int) : remsL pl (n :: ns) = remL (remsL pl ns) (nameS n) := by
  rw [remsL, remL, remsL, List.filter_filter]
  refine List.filter_congr fun f _ => ?_
  by_cases h : f.name = nameS n <;> simp [h]
section
variable {room : Int} {pl : List PF} {b : List UInt8} {n m : Int}
theorem has_rem {s t : ByteArray} (h : hasL pl s = true) (hne : s ≠ t) : hasL (remL pl t) s = true := by
  obtain ⟨f, hf, rfl⟩ := hasL_iff.1 h
  exact hasL_iff.2 ⟨f, List.mem_filter.2 ⟨hf, by simpa using hne⟩, rfl⟩
theorem has_upd {s t : ByteArray} {u : PF → PF} (hu : ∀ f, (u f).name = f.name) (h : hasL pl s = true) : hasL (updL pl t u) s = true := by
  obtain ⟨f, hf, rfl⟩ := hasL_iff.1 h
  refine hasL_iff.2 ⟨_, List.mem_map.2 ⟨f, hf, rfl⟩, ?_⟩
  split
  · exact hu f
  · rfl
theorem has_app {s t : ByteArray} (h : hasL pl s = true) : hasL (appL room pl t b) s = true := by
  rw [appL]
  split
  · split
    · exact has_upd (fun _ => rfl) h
    · obtain ⟨f, hf, rfl⟩ := hasL_iff.1 h
      exact hasL_iff.2 ⟨f, List.mem_append_left _ hf, rfl⟩
  · exact h
theorem has_ren {s t t2 : ByteArray} (h : hasL pl s = true) (h1 : s ≠ t) (h2 : s ≠ t2) : hasL (renL pl t t2) s = true := by
  rw [renL]
  split
  · split
    · obtain ⟨f, hf, rfl⟩ := hasL_iff.1 (has_rem (has_rem h h1) h2)
      exact hasL_iff.2 ⟨f, List.mem_append_left _ hf, rfl⟩
    · exact h
  · exact h
theorem has_swap {s : ByteArray} (h : hasL pl s = true) (h1 : s ≠ freshN) (h2 : s ≠ nameS n) : hasL (swapP room pl b n).2 s = true := by
  rw [swapP]
  split
  · split
    · exact has_ren (has_upd (fun _ => rfl) (has_app h)) h1 h2
    · exact has_upd (fun _ => rfl) (has_app h)
  · exact has_app h
theorem fresh_not (n : Int) : nameS n ≠ freshN := by
  intro e
  by_cases c : n < 1 ∨ 999999999 < n
  · rw [name_no c] at e; exact absurd e (by decide)
  · obtain ⟨k, rfl⟩ : ∃ k : Nat, n = k := ⟨n.toNat, by omega⟩
    have h1 := nameS_list (n := k) (by omega) (by omega)
    rw [e] at h1
    have h2 := dec_dig k
    have h3 : Lib.decDigits k = [110, 101, 119] := by
      have : freshN.data.toList = [108, 111, 103, 46] ++ [110, 101, 119] := rfl
      rw [this] at h1
      exact (List.append_cancel_left h1).symm
    have := h2 110 (by rw [h3]; simp)
    exact absurd this.2 (by decide)
theorem name_may {n : Int} (h1 : 1 ≤ n) (h2 : n ≤ 999999999) : mayN (nameS n) = true := by
  obtain ⟨k, rfl⟩ : ∃ k : Nat, n = k := ⟨n.toNat, by omega⟩
  have hs := nameS_may (k : Int)
  have hl := nameS_list (n := k) (by omega) (by omega)
  have hne : (nameS (k : Int)).size ≠ 0 := by
    have h3 := congrArg List.length hl
    rw [Array.length_toList, List.length_append] at h3
    have h4 : (nameS (k : Int)).size = (nameS (k : Int)).data.size := rfl
    simp only [List.length_cons] at h3
    omega
  rw [mayN, Bool.and_eq_true, Bool.and_eq_true, decide_eq_true_iff, decide_eq_true_iff]
  refine ⟨?_, hne, by omega⟩
  rw [hl, List.all_append, Bool.and_eq_true]
  refine ⟨by decide, List.all_eq_true.2 fun c hc => ?_⟩
  have := dec_dig k c hc
  rw [okC, decide_eq_true_iff]
  exact .inr (.inr (.inr (.inl ⟨this.1, this.2⟩)))
theorem look_has {s : ByteArray} (hm : mayN s = true) (h : hasL pl s = true) : lookE pl s = 0 := by rw [lookE, if_pos hm, if_pos h]
theorem seg_look (h : n ∈ segsL pl) : lookE pl (nameS n) = 0 := by
  obtain ⟨h1, h2, h3⟩ := segsL_mem.1 h
  exact look_has (name_may h1 h2) h3
theorem name_inj {n m : Int} (h1 : 1 ≤ n) (h2 : n ≤ 999999999) (h3 : 1 ≤ m) (h4 : m ≤ 999999999) (e : nameS n = nameS m) : n = m := by
  obtain ⟨k, rfl⟩ : ∃ k : Nat, n = k := ⟨n.toNat, by omega⟩
  obtain ⟨j, rfl⟩ : ∃ j : Nat, m = j := ⟨m.toNat, by omega⟩
  have := nameS_inj (by omega) (by omega) (by omega) (by omega) e
  omega
theorem has_rems {s : ByteArray} {ns : List Int} (h : hasL pl s = true) (hne : ∀ m ∈ ns, s ≠ nameS m) : hasL (remsL pl ns) s = true := by
  obtain ⟨f, hf, rfl⟩ := hasL_iff.1 h
  refine hasL_iff.2 ⟨f, List.mem_filter.2 ⟨hf, ?_⟩, rfl⟩
  simp only [Bool.not_eq_true', List.any_eq_false, decide_eq_true_eq]
  exact fun m hm e => hne m hm e
end
/-- a list of numbers of segments, rising -/
structure SegsOk (l : List Int) : Prop where
  rise : l.Pairwise (· < ·)
  low : ∀ n ∈ l, 1 ≤ n ∧ n ≤ 999999999
theorem segs_ok {room : Int} {pl : List PF} (h : PLOk room pl) : SegsOk (segsL pl) := ⟨segsL_rise h.nodup, fun n hn => by have := segsL_mem.1 hn; exact ⟨this.1, this.2.1⟩⟩
theorem SegsOk.lt {l : List Int} (h : SegsOk l) {i j : Nat} {n m : Int} (hi : l[i]? = some n) (hj : l[j]? = some m) (hij : i < j) : n < m := by
  obtain ⟨h1, rfl⟩ := List.getElem?_eq_some_iff.1 hi
  obtain ⟨h2, rfl⟩ := List.getElem?_eq_some_iff.1 hj
  exact List.pairwise_iff_getElem.1 h.rise i j h1 h2 hij
theorem SegsOk.ne {l : List Int} (h : SegsOk l) {i j : Nat} {n m : Int} (hi : l[i]? = some n) (hj : l[j]? = some m) (hij : i < j) : nameS m ≠ nameS n := fun e => by
  have h1 := h.low n (List.mem_of_getElem? hi)
  have h2 := h.low m (List.mem_of_getElem? hj)
  have h3 := h.lt hi hj hij
  have := name_inj h1.1 h1.2 h2.1 h2.2 e.symm
  omega
theorem drop_at {l : List Int} {j : Nat} {m : Int} (h : l[j]? = some m) : l.drop j = m :: l.drop (j + 1) := by
  obtain ⟨h1, rfl⟩ := List.getElem?_eq_some_iff.1 h
  exact List.drop_eq_getElem_cons h1
theorem last_none {pl : List PF} (h : (segsL pl).length = 0) : lastP pl = 0 := by rw [lastP, List.eq_nil_of_length_eq_zero h]; rfl
theorem last_at {pl : List PF} {x : Int} (h : (segsL pl)[(segsL pl).length - 1]? = some x) : lastP pl = x := by rw [lastP, List.getLast?_eq_getElem?, h]; rfl

def bytesP (pl : List PF) (ns : List Int) : Nat := (ns.map fun n => sizeB pl (nameS n)).sum
theorem bytesP_snoc {pl : List PF} {ns : List Int} {i : Nat} {n : Int} (h : ns[i]? = some n) : bytesP pl (ns.take (i + 1)) = bytesP pl (ns.take i) + sizeB pl (nameS n) := by
  obtain ⟨hi, rfl⟩ := List.getElem?_eq_some_iff.1 h
  rw [bytesP, List.take_succ_eq_append_getElem hi, List.map_append, List.sum_append_nat]; simp [bytesP]
theorem sizeB_le {room : Int} {pl : List PF} (h : PLOk room pl) (s : ByteArray) : sizeB pl s ≤ 16777216 := by
  rw [sizeB]
  cases hl : lookL pl s with
  | none => simp
  | some f =>
    have h1 := usedL_mem (lookL_some hl).1
    have h2 := h.used
    have h3 := h.room.2
    simp only [Option.map_some, Option.getD_some]
    omega
theorem bytesP_le {room : Int} {pl : List PF} (h : PLOk room pl) : ∀ (ns : List Int), bytesP pl ns ≤ ns.length * 16777216
  | [] => by simp [bytesP]
  | n :: ns => by
    have h1 := bytesP_le h ns
    have h2 := sizeB_le h (nameS n)
    rw [bytesP] at h1 ⊢
    simp only [List.map_cons, List.sum_cons, List.length_cons, Nat.add_mul]
    omega

theorem en65 : Enters Tryz.prog 65 := enters_of Tryz.func65 rfl (by kernel_rfl)
theorem en116 : Enters Tryz.prog 116 := enters_of Tryz.func116 rfl (by kernel_rfl)
theorem en239 : Enters Tryz.prog 239 := enters_of Tryz.func239 rfl (by kernel_rfl)

set_option maxRecDepth 100000 in
set_option maxHeartbeats 4000000 in
theorem last_ (b d : Nat) (F : Nat → Prop) (room : Int) (pl : List PF) (w : World) (hb : Blk w b [.pointer (some ⟨d, 0, none⟩)] 122) (hD : DiskAt w d F room pl) (hbd : ¬ F b) (hL : LaidOk w) :
    Calls Tryz.prog 64 #[.pointer (some ⟨b, 0, none⟩)] w (Ret (fun v w' => v = .int .i64 (lastP pl) ∧ Ext w w')) := by
  have hLs := hL.size
  have hok := hD.ok
  have hlen := hok.len
  have hsl := segsL_len pl
  refine calls_run (n := 15) Tryz.func64 rfl rfl rfl ?_
  refine Run.seq ?_
  refine Run.region ?_
  refine RL.val (x_assignI rfl) ?_
  refine RL.nil ?_
  refine Run.seq ?_
  refine Run.region ?_
  refine RL.val (x_moveP rfl) ?_
  refine RL.st rfl <| St1.call (vals := [.pointer (some ⟨b, 0, none⟩)]) en116 rfl (segs_ _ _ _ _ _ _ hb hD hbd hL) ?_
  rintro _ w_3 ⟨a_1, c_2, rfl, ho_4, hg_5, K_6⟩
  have pr_7 : ¬ own a_1 b := notNew hg_5 hb.lt
  have pr_8 : ∀ q_, own a_1 q_ → ¬ F q_ := apartNew hg_5 hD.own_lt
  have pg_9 : ∀ q_, own a_1 q_ → w.heap.size ≤ q_ := fun q_ h => Nat.le_trans (Nat.le_refl _) (hg_5 q_ h)
  clear hg_5
  replace hb := hb.ext K_6
  replace hD := hD.ext K_6
  replace hL := hL.ext K_6
  have K0 := (K_6 : Ext w _)
  refine RL.val (x_assignSl rfl) ?_
  refine RL.nil ?_
  refine Run.seq ?_
  refine Run.seq ?_
  refine Run.region ?_
  refine RL.val (x_moveSl rfl) ?_
  refine RL.val (x_lenSl Tryz.underlying130 rfl) ?_
  refine RL.val (x_eqI rfl rfl) ?_
  refine RL.nil ?_
  refine Run.cond rfl (fun hc8 => ?_) (fun hc8 => ?_)
  · try simp only [br] at hc8
    refine Run.seq ?_
    refine Run.region ?_
    refine RL.val (x_assignI rfl) ?_
    refine RL.nil ?_
    refine Run.ret1 (v := .int .i64 (0)) Tryz.func64 rfl rfl ?_
    exact ⟨_, rfl, by rw [last_none (by omega)], K0⟩
  · try simp only [br] at hc8
    refine Run.skip ?_
    refine Run.seq ?_
    refine Run.region ?_
    refine RL.val (x_moveSl rfl) ?_
    refine RL.val (x_moveSl rfl) ?_
    refine RL.val (x_lenSl Tryz.underlying130 rfl) ?_
    refine RL.val (litI (c := (((segsL pl).length - 1 : Nat) : Int)) (x_sub rfl rfl (by omega) (by omega)) (by omega)) ?_
    obtain ⟨b_10, o_11, x, hx, ha_12, hc_13⟩ := ho_4.sl.el (i := (segsL pl).length - 1) (by first | omega | (simp only [List.length_set]; omega))
    refine RL.val (x_idxN Tryz.underlying130 ty3 rfl rfl ha_12 (by first | omega | (simp only [List.length_set]; omega))) ?_
    refine RL.val (x_ldV (v := .int .i64 (x)) (y := x) ty3 rfl hc_13 rfl) ?_
    refine RL.val (x_assignI rfl) ?_
    refine RL.nil ?_
    refine Run.ret1 (v := .int .i64 (x)) Tryz.func64 rfl rfl ?_
    exact ⟨_, rfl, by rw [last_at hx], K0⟩

set_option maxRecDepth 100000 in
set_option maxHeartbeats 4000000 in
theorem fbytes_ (b d : Nat) (F : Nat → Prop) (room : Int) (pl : List PF) (w : World) (hb : Blk w b [.pointer (some ⟨d, 0, none⟩)] 122) (hD : DiskAt w d F room pl) (hbd : ¬ F b) (hL : LaidOk w) :
    Calls Tryz.prog 86 #[.pointer (some ⟨b, 0, none⟩)] w (Ret (fun v w' => v = .int .i64 ((bytesP pl (segsL pl) : Nat) : Int) ∧ Ext w w')) := by
  have hLs := hL.size
  have hok := hD.ok
  have hlen := hok.len
  have hsl := segsL_len pl
  refine calls_run (n := 32) Tryz.func86 rfl rfl rfl ?_
  refine Run.seq ?_
  refine Run.region ?_
  refine RL.val (x_assignI rfl) ?_
  refine RL.nil ?_
  refine Run.seq ?_
  refine Run.region ?_
  refine RL.val (x_assignI rfl) ?_
  refine RL.nil ?_
  refine Run.seq ?_
  refine Run.seq ?_
  refine Run.region ?_
  refine RL.val (x_moveP rfl) ?_
  refine RL.st rfl <| St1.call (vals := [.pointer (some ⟨b, 0, none⟩)]) en116 rfl (segs_ _ _ _ _ _ _ hb hD hbd hL) ?_
  rintro _ w_3 ⟨a_1, c_2, rfl, ho_4, hg_5, K_6⟩
  have pr_7 : ¬ own a_1 b := notNew hg_5 hb.lt
  have pr_8 : ∀ q_, own a_1 q_ → ¬ F q_ := apartNew hg_5 hD.own_lt
  have pg_9 : ∀ q_, own a_1 q_ → w.heap.size ≤ q_ := fun q_ h => Nat.le_trans (Nat.le_refl _) (hg_5 q_ h)
  clear hg_5
  replace hb := hb.ext K_6
  replace hD := hD.ext K_6
  replace hL := hL.ext K_6
  have K0 := (K_6 : Ext w _)
  refine RL.val (x_lenSl Tryz.underlying130 rfl) ?_
  refine RL.val (x_moveI rfl) ?_
  refine RL.nil ?_
  refine Run.block ?_
  refine Run.loop (ι := Nat) (fun i ρ' w' => Holds ρ' [(0, .pointer (some ⟨b, 0, none⟩)), (3, .int .i64 (((bytesP pl ((segsL pl).take i) : Nat) : Int))), (10, .slice (a_1) ((segsL pl).length) (c_2)), (11, .int .i64 ((((segsL pl).length : Nat) : Int))), (12, .int .i64 (((i : Nat) : Int)))] ∧ Ext w w' ∧ (Blk w' b [.pointer (some ⟨d, 0, none⟩)] 122) ∧ (LaidOk w') ∧ (DiskAt w' d F room pl) ∧ (OwnSl w' 3 (a_1) (c_2) (segsL pl)) ∧ (i ≤ (segsL pl).length)) (fun i => (segsL pl).length - i) 0 ?_ ?_
  · rw [show bytesP pl ((segsL pl).take 0) = 0 by rw [List.take_zero]; rfl]
    refine ⟨⟨rfl, rfl, rfl, rfl, rfl, trivial⟩, K0, hb, hL, hD, ho_4, ?_⟩
    · omega
  clear hb hD ho_4
  clear K0
  rintro i ρ_12 w_10 ⟨hH_11, K0, hb, hL, hD, ho_4, hi⟩ ih1
  obtain ⟨ρ₀, rfl⟩ := hH_11.ex
  clear hH_11
  refine Run.seq ?_
  refine Run.region ?_
  refine RL.val (x_ltI rfl rfl) ?_
  refine RL.nil ?_
  refine Run.seq ?_
  refine Run.cond rfl (fun hc13 => ?_) (fun hc13 => ?_)
  · try simp only [br] at hc13
    refine Run.skip ?_
    refine Run.seq ?_
    refine Run.block ?_
    refine Run.seq ?_
    refine Run.region ?_
    obtain ⟨b_13, o_14, x, hx, ha_15, hc_16⟩ := ho_4.sl.el (i := i) (by first | omega | (simp only [List.length_set]; omega))
    refine RL.val (x_idxN Tryz.underlying130 ty3 rfl rfl ha_15 (by first | omega | (simp only [List.length_set]; omega))) ?_
    refine RL.val (x_ldV (v := .int .i64 (x)) (y := x) ty3 rfl hc_16 rfl) ?_
    refine RL.val (x_assignI rfl) ?_
    refine RL.nil ?_
    refine Run.seq ?_
    have hnm := nameS_may x
    refine Run.drawT [] (m := 14) (by kernel_rfl) rfl ?_
    intro w_19 K_20
    replace hb := hb.ext K_20
    replace hL := hL.ext K_20
    replace hD := hD.ext K_20
    replace ho_4 := ho_4.ext K_20
    replace K0 := K0.ext K_20
    refine ⟨fun w' => Blk w' b [.pointer (some ⟨d, 0, none⟩)] 122 ∧ True, ?_⟩
    refine RT.takeP (v := .pointer (some ⟨b, 0, none⟩)) 0 rfl (by kernel_rfl) (.inr ⟨hb, trivial⟩) (fun _ => (x_moveP rfl)) ?_
    refine RT.takeP (v := .pointer (some ⟨b, 0, none⟩)) 1 rfl (by kernel_rfl) (.inr ⟨hb, trivial⟩) (fun _ => (x_nilCheck rfl)) ?_
    refine RT.takeP (v := .pointer (some ⟨b, 0, none⟩)) 2 rfl (by kernel_rfl) (.inr ⟨hb, trivial⟩) (fun _ => (x_fld (o' := 0) Tryz.underlying120 rfl ty62 rfl rfl rfl)) ?_
    refine RT.take (v := .pointer (some ⟨d, 0, none⟩)) 3 rfl (by kernel_rfl) ⟨hb, trivial⟩ (by rintro _ ⟨hb, -⟩; exact (x_ld (v := .pointer (some ⟨d, 0, none⟩)) ty62 rfl rfl (hb.cl.field (i := 0) rfl))) ?_
    refine RT.takeP (v := .int .i64 (x)) 4 rfl (by kernel_rfl) (.inr ⟨hb, trivial⟩) (fun _ => (x_moveI rfl)) ?_
    refine RT.st 5 rfl (by kernel_rfl) rfl <| St1.call (vals := [.int .i64 (x)]) en66 rfl (segName_ x _ hL) ?_
    rintro _ w_21 ⟨rfl, K_22⟩
    replace hb := hb.ext K_22
    replace hL := hL.ext K_22
    replace hD := hD.ext K_22
    replace ho_4 := ho_4.ext K_22
    replace K0 := K0.ext K_22
    refine ⟨.inr ⟨hb, trivial⟩, ?_⟩
    refine RT.st 6 rfl (by kernel_rfl) rfl <| St1.call (vals := [.pointer (some ⟨d, 0, none⟩), .string (nameS x)]) en65 rfl (sizeD hD (nameS x) (by first | omega | decide)) ?_
    rintro _ w_23 ⟨rfl, K_24⟩
    replace hb := hb.ext K_24
    replace hL := hL.ext K_24
    replace hD := hD.ext K_24
    replace ho_4 := ho_4.ext K_24
    replace K0 := K0.ext K_24
    refine ⟨.inr ⟨hb, trivial⟩, ?_⟩
    refine RT.takeP (v := .tuple #[.int .i64 (((sizeB pl (nameS x) : Nat) : Int)), .int .i64 (((syncB pl (nameS x) : Nat) : Int)), .int .i64 (lookE pl (nameS x))]) 7 rfl (by kernel_rfl) (.inr ⟨hb, trivial⟩) (fun _ => (x_moveT rfl)) ?_
    refine RT.takeP (v := .int .i64 (((sizeB pl (nameS x) : Nat) : Int))) 8 rfl (by kernel_rfl) (.inr ⟨hb, trivial⟩) (fun _ => (x_extract rfl rfl)) ?_
    refine RT.takeP (v := .int .i64 (((syncB pl (nameS x) : Nat) : Int))) 9 rfl (by kernel_rfl) (.inr ⟨hb, trivial⟩) (fun _ => (x_extract rfl rfl)) ?_
    refine RT.takeP (v := .int .i64 (lookE pl (nameS x))) 10 rfl (by kernel_rfl) (.inr ⟨hb, trivial⟩) (fun _ => (x_extract rfl rfl)) ?_
    refine RT.takeP (v := .int .i64 (((sizeB pl (nameS x) : Nat) : Int))) 11 rfl (by kernel_rfl) (.inr ⟨hb, trivial⟩) (fun _ => (x_assignI rfl)) ?_
    refine RT.takeP (v := .int .i64 (((syncB pl (nameS x) : Nat) : Int))) 12 rfl (by kernel_rfl) (.inr ⟨hb, trivial⟩) (fun _ => (x_assignI rfl)) ?_
    refine RT.takeP (v := .int .i64 (lookE pl (nameS x))) 13 rfl (by kernel_rfl) (.inr ⟨hb, trivial⟩) (fun _ => (x_assignI rfl)) ?_
    refine RT.done (by kernel_rfl) ?_
    have hby := bytesP_le hok ((segsL pl).take i)
    have hsz := sizeB_le hok (nameS x)
    have htl := List.length_take_le i (segsL pl)
    refine Run.region ?_
    refine RL.val (x_moveI rfl) ?_
    refine RL.val (x_moveI rfl) ?_
    refine RL.val (litI (c := (((bytesP pl ((segsL pl).take i)) + (sizeB pl (nameS x)) : Nat) : Int)) (x_add rfl rfl (by omega) (by omega)) rfl) ?_
    refine RL.val (x_assignI rfl) ?_
    refine RL.nil ?_
    refine Run.inBlock ?_
    refine Run.region ?_
    refine RL.val (litI (c := ((i + 1 : Nat) : Int)) (x_add rfl rfl (by omega) (by omega)) rfl) ?_
    refine RL.val (x_moveI rfl) ?_
    refine RL.nil ?_
    have e := bytesP_snoc (pl := pl) hx
    refine ih1 (i + 1) _ _ ?_ (by omega)
    rw [e]
    refine ⟨⟨rfl, rfl, rfl, rfl, rfl, trivial⟩, K0, hb, hL, hD, ho_4, ?_⟩
    · omega
  · try simp only [br] at hc13
    refine Run.exit rfl ?_
    refine Run.seq ?_
    refine Run.region ?_
    refine RL.val (x_moveI rfl) ?_
    refine RL.val (x_assignI rfl) ?_
    refine RL.nil ?_
    refine Run.ret1 (v := .int .i64 (((bytesP pl ((segsL pl).take i) : Nat) : Int))) Tryz.func86 rfl rfl ?_
    have hie : i = (segsL pl).length := by omega
    exact ⟨_, rfl, by rw [hie, List.take_length], K0⟩

set_option maxRecDepth 100000 in
set_option maxHeartbeats 4000000 in
theorem frames_ (a : Option Addr) (xs : List UInt8) (c : Nat) (w : World) (hs : SlO w a xs) (hl : xs.length ≤ 1073741824) :
    Calls Tryz.prog 185 #[.slice (a) (xs.length) (c)] w (Ret (fun v w' => ∃ a' c', ∃ rs : List RB, v = .tuple #[.slice a' (rs.map RB.h).length c', .int .i64 ((xs.length - (framesR xs).2.length : Nat) : Int)] ∧ OwnSl w' 74 a' c' (rs.map RB.h) ∧ RecsO w' rs ∧ rs.map RB.b = (framesR xs).1 ∧ (∀ q, own a' q → w.heap.size ≤ q) ∧ (∀ q, recsS rs q → w.heap.size ≤ q) ∧ (∀ q, own a' q → ¬ recsS rs q) ∧ Ext w w')) := by
  refine calls_run (n := 32) Tryz.func185 rfl rfl rfl ?_
  refine Run.seq ?_
  refine Run.region ?_
  refine RL.val (x_assignSl rfl) ?_
  refine RL.val (x_assignI rfl) ?_
  refine RL.nil ?_
  refine Run.seq ?_
  refine Run.region ?_
  refine RL.val (x_assignSl rfl) ?_
  refine RL.nil ?_
  have hR : RecsO w ([] : List RB) := RecsO.nil w
  refine Run.seq ?_
  refine Run.region ?_
  refine RL.val (x_moveSl rfl) ?_
  refine RL.val (x_assignSl rfl) ?_
  refine RL.nil ?_
  refine Run.seq ?_
  refine Run.block ?_
  refine Run.loop (ι := List UInt8) (fun lf ρ' w' => ∃ rs : List RB, ∃ ao : Option Addr, ∃ co : Nat, ∃ al : Option Addr, ∃ cl : Nat, Holds ρ' [(0, .slice (a) (xs.length) (c)), (4, .slice (ao) ((rs.map RB.h).length) (co)), (5, .slice (al) (lf.length) (cl))] ∧ Ext w w' ∧ (RecsO w' (rs)) ∧ (SlO w' al lf) ∧ (OwnSl w' 74 ao co (rs.map RB.h)) ∧ (∀ q_, recsS (rs) q_ → ¬ own al q_) ∧ (∀ q_, recsS (rs) q_ → ¬ own ao q_) ∧ (∀ q_, recsS (rs) q_ → w.heap.size ≤ q_) ∧ (∀ q_, own al q_ → ¬ own ao q_) ∧ (∀ q_, own ao q_ → w.heap.size ≤ q_) ∧ (rs.length + lf.length ≤ xs.length) ∧ (lf.length ≤ xs.length) ∧ (rs.map RB.b ++ (framesR lf).1 = (framesR xs).1) ∧ ((framesR xs).2 = (framesR lf).2)) (fun lf => lf.length) xs ?_ ?_
  · have ho_11 := OwnSl.nil (α := SH) w 74
    refine ⟨[], _, _, _, _, ⟨rfl, rfl, rfl, trivial⟩, (Keeps.refl _ w), hR, hs, ho_11, (fun q_ ⟨_, h_, _⟩ _ => absurd h_ (by simp)), (fun q_ h1 h2 => (fun q_ h1 _ => own_none q_ h1) q_ h2 h1), (fun q_ ⟨_, h_, _⟩ => absurd h_ (by simp)), (fun q_ h1 h2 => (fun q_ h1 _ => own_none q_ h1) q_ h2 h1), (fun q_ h1 => absurd h1 (own_none q_)), ?_, ?_, ?_, ?_⟩
    · exact Nat.le_of_eq (Nat.zero_add _)
    · exact Nat.le_refl _
    · rfl
    · rfl
  clear hs hR
  rintro lf ρ_12 w_1 ⟨rs, ao, co, al, cl, hH_2, K0, hO_3, hO_4, ho_5, pr_6, pr_7, pr_8, pr_9, pr_10, hrs, hll, hFr, hFr2⟩ ih1
  obtain ⟨ρ₀, rfl⟩ := hH_2.ex
  clear hH_2
  refine Run.seq ?_
  refine Run.seq ?_
  refine Run.region ?_
  refine RL.val (x_moveSl rfl) ?_
  refine RL.val (x_lenSl Tryz.underlying74 rfl) ?_
  refine RL.val (x_gtI rfl rfl) ?_
  refine RL.nil ?_
  refine Run.cond rfl (fun hc12 => ?_) (fun hc12 => ?_)
  · try simp only [br] at hc12
    refine Run.skip ?_
    refine Run.block ?_
    refine Run.seq ?_
    refine Run.region ?_
    refine RL.val (x_moveSl rfl) ?_
    refine RL.st rfl <| St1.call (vals := [.slice (al) (lf.length) (cl)]) en239 rfl (unframe_ _ _ _ _ hO_4.sl (by omega)) ?_
    rintro _ wU_13 hU_13
    rcases hU_13 with hU_13 | hU_13
    · obtain ⟨P_14, R_15, a_16, c_17, a_18, c_19, hU_20, rfl, ho_21, ho_22, hap_23, hg_24, hg_25, K_26⟩ := hU_13
      have pr_27 : ∀ q_, own a_16 q_ → ¬ recsS (rs) q_ := apartNew hg_24 hO_3.own_lt
      have pr_28 : ∀ q_, own a_16 q_ → ¬ own al q_ := apartNew hg_24 hO_4.own_lt
      have pr_29 : ∀ q_, own a_16 q_ → ¬ own ao q_ := apartNew hg_24 ho_5.own_lt
      have pg_30 : ∀ q_, own a_16 q_ → w.heap.size ≤ q_ := fun q_ h => Nat.le_trans K0.size (hg_24 q_ h)
      have pr_31 : ∀ q_, own a_18 q_ → ¬ recsS (rs) q_ := apartNew hg_25 hO_3.own_lt
      have pr_32 : ∀ q_, own a_18 q_ → ¬ own al q_ := apartNew hg_25 hO_4.own_lt
      have pr_33 : ∀ q_, own a_18 q_ → ¬ own ao q_ := apartNew hg_25 ho_5.own_lt
      have pg_34 : ∀ q_, own a_18 q_ → w.heap.size ≤ q_ := fun q_ h => Nat.le_trans K0.size (hg_25 q_ h)
      replace hO_3 := hO_3.ext K_26
      replace hO_4 := hO_4.ext K_26
      replace ho_5 := ho_5.ext K_26
      replace K0 := K0.ext K_26
      refine RL.val (x_moveT rfl) ?_
      refine RL.val (x_extract rfl rfl) ?_
      refine RL.val (x_extract rfl rfl) ?_
      refine RL.val (x_extract rfl rfl) ?_
      refine RL.val (x_assignSl rfl) ?_
      refine RL.val (x_assignSl rfl) ?_
      refine RL.val (x_assignI rfl) ?_
      refine RL.nil ?_
      refine Run.seq ?_
      refine Run.seq ?_
      refine Run.region ?_
      refine RL.val (x_moveI rfl) ?_
      refine RL.val (litF (x_neI rfl rfl) (by decide)) ?_
      refine RL.nil ?_
      refine Run.condF rfl ?_
      refine Run.skip ?_
      refine Run.seq ?_
      have hrl : (rs.map RB.h).length = rs.length := List.length_map ..
      refine Run.region ?_
      refine RL.val (x_moveSl rfl) ?_
      refine RL.val (x_moveSl rfl) ?_
      refine RL.st rfl <| St1.buildSlice ([⟨a_16, P_14.length, c_17⟩] : List SH) Tryz.underlying91 ty74 rfl rfl (by first | decide | (simp [Enc.size])) ?_
      intro b_35 w_36 hl_39 ho_38 K_37
      have pr_40 : ∀ q_, own (some ⟨b_35, 0, none⟩) q_ → ¬ recsS (rs) q_ := apartNew (ge_new hl_39) hO_3.own_lt
      have pr_41 : ∀ q_, own (some ⟨b_35, 0, none⟩) q_ → ¬ own al q_ := apartNew (ge_new hl_39) hO_4.own_lt
      have pr_42 : ∀ q_, own (some ⟨b_35, 0, none⟩) q_ → ¬ own ao q_ := apartNew (ge_new hl_39) ho_5.own_lt
      have pr_43 : ∀ q_, own (some ⟨b_35, 0, none⟩) q_ → ¬ own a_16 q_ := apartNew (ge_new hl_39) ho_21.own_lt
      have pr_44 : ∀ q_, own (some ⟨b_35, 0, none⟩) q_ → ¬ own a_18 q_ := apartNew (ge_new hl_39) ho_22.own_lt
      have pg_45 : ∀ q_, own (some ⟨b_35, 0, none⟩) q_ → w.heap.size ≤ q_ := fun q_ h => Nat.le_trans K0.size ((ge_new hl_39) q_ h)
      clear hl_39
      replace hO_3 := hO_3.ext K_37
      replace hO_4 := hO_4.ext K_37
      replace ho_5 := ho_5.ext K_37
      replace ho_21 := ho_21.ext K_37
      replace ho_22 := ho_22.ext K_37
      replace K0 := K0.ext K_37
      refine RL.st rfl <| St1.append (xs := rs.map RB.h) (ys := ([⟨a_16, P_14.length, c_17⟩] : List SH)) Tryz.underlying91 ty74 rfl rfl rfl ho_5 ho_38.sl (by first | omega | (simp only [lr]; omega)) (by decide) ?_
      intro a_46 c_47 w_48 ho_49 K_50 hm_51 hrm_52
      have pr_53 : ∀ q_, own a_46 q_ → ¬ recsS (rs) q_ := hm_51.apart (fun q_ h1 h2 => pr_7 q_ h2 h1) hO_3.own_lt
      have pr_54 : ∀ q_, own a_46 q_ → ¬ own al q_ := hm_51.apart (fun q_ h1 h2 => pr_9 q_ h2 h1) hO_4.own_lt
      have pr_55 : ∀ q_, own a_46 q_ → ¬ own a_16 q_ := hm_51.apart (fun q_ h1 h2 => pr_29 q_ h2 h1) ho_21.own_lt
      have pr_56 : ∀ q_, own a_46 q_ → ¬ own a_18 q_ := hm_51.apart (fun q_ h1 h2 => pr_33 q_ h2 h1) ho_22.own_lt
      have pr_57 : ∀ q_, own a_46 q_ → ¬ own (some ⟨b_35, 0, none⟩) q_ := hm_51.apart (fun q_ h1 h2 => pr_42 q_ h2 h1) ho_38.own_lt
      have pg_58 : ∀ q_, own a_46 q_ → w.heap.size ≤ q_ := hm_51.ge pr_10 K0.size
      replace hO_3 := hO_3.keepO K_50 pr_7
      replace hO_4 := hO_4.keepO K_50 pr_9
      replace ho_21 := ho_21.keepO K_50 pr_29
      replace ho_22 := ho_22.keepO K_50 pr_33
      replace ho_38 := ho_38.keepO K_50 pr_42
      replace K0 := K0.new K_50 pr_10
      clear hm_51
      clear hrm_52
      refine RL.val (x_assignSl rfl) ?_
      refine RL.nil ?_
      have eRR : (rs.map RB.h) ++ ([⟨a_16, P_14.length, c_17⟩] : List SH) = (rs ++ ([⟨a_16, c_17, P_14⟩] : List RB)).map RB.h := by rw [List.map_append]; rfl
      rw [eRR] at ho_49 ⊢
      have hR' : RecsO w_48 (rs ++ ([⟨a_16, c_17, P_14⟩] : List RB)) := RecsO.snoc hO_3 ho_21
      have pr_59 : ∀ q_, recsS (rs ++ ([⟨a_16, c_17, P_14⟩] : List RB)) q_ → ¬ own al q_ := fun q_ x_ z_ => (recs_case1 _ x_).elim (fun y_ => pr_28 q_ y_ z_) (fun y_ => (fun y_ => pr_6 q_ y_ z_) y_)
      have pr_60 : ∀ q_, recsS (rs ++ ([⟨a_16, c_17, P_14⟩] : List RB)) q_ → ¬ own a_18 q_ := fun q_ x_ z_ => (recs_case1 _ x_).elim (fun y_ => hap_23 q_ y_ z_) (fun y_ => (fun y_ => (fun q_ h1 h2 => pr_31 q_ h2 h1) q_ y_ z_) y_)
      have pr_61 : ∀ q_, recsS (rs ++ ([⟨a_16, c_17, P_14⟩] : List RB)) q_ → ¬ own a_46 q_ := fun q_ x_ z_ => (recs_case1 _ x_).elim (fun y_ => (fun q_ h1 h2 => pr_55 q_ h2 h1) q_ y_ z_) (fun y_ => (fun y_ => (fun q_ h1 h2 => pr_53 q_ h2 h1) q_ y_ z_) y_)
      have pg_62 : ∀ q_, recsS (rs ++ ([⟨a_16, c_17, P_14⟩] : List RB)) q_ → w.heap.size ≤ q_ := fun q_ x_ => (recs_case1 _ x_).elim (fun y_ => pg_30 q_ y_) (fun y_ => (fun y_ => pr_8 q_ y_) y_)
      refine Run.region ?_
      refine RL.val (x_moveSl rfl) ?_
      refine RL.val (x_assignSl rfl) ?_
      refine RL.nil ?_
      have hLf := OwnSl.slo ho_22
      have pr_63 : ∀ q_, own a_18 q_ → ¬ own a_46 q_ := fun q_ x_ z_ => (fun y_ => (fun q_ h1 h2 => pr_56 q_ h2 h1) q_ y_ z_) ((fun q_ h_ => h_) _ x_)
      have pr_64 : ∀ q_, own a_18 q_ → ¬ recsS (rs ++ ([⟨a_16, c_17, P_14⟩] : List RB)) q_ := fun q_ x_ z_ => (fun y_ => (fun q_ h1 h2 => pr_60 q_ h2 h1) q_ y_ z_) ((fun q_ h_ => h_) _ x_)
      have pg_65 : ∀ q_, own a_18 q_ → w.heap.size ≤ q_ := fun q_ x_ => (fun y_ => pg_34 q_ y_) ((fun q_ h_ => h_) _ x_)
      refine Run.inBlock ?_
      have hU2 := framesR_ok (ne_of_len (by omega)) hU_20
      have hUl := unfR_len hU_20
      refine ih1 R_15 _ _ ?_ (by omega)
      refine ⟨rs ++ ([⟨a_16, c_17, P_14⟩] : List RB), _, _, _, _, ⟨rfl, rfl, rfl, trivial⟩, K0, hR', hLf, ho_49, (fun q_ h1 h2 => pr_64 q_ h2 h1), pr_61, pg_62, pr_63, pg_58, ?_, ?_, ?_, ?_⟩
      · simp only [List.length_append, List.length_cons, List.length_nil]; omega
      · omega
      · rw [List.map_append, List.append_assoc, ← hFr, hU2]; rfl
      · rw [hFr2, hU2]
    · obtain ⟨e_66, hU_67, rfl, K_68⟩ := hU_13
      have hne := unfR_err hU_67
      replace hO_3 := hO_3.ext K_68
      replace hO_4 := hO_4.ext K_68
      replace ho_5 := ho_5.ext K_68
      replace K0 := K0.ext K_68
      refine RL.val (x_moveT rfl) ?_
      refine RL.val (x_extract rfl rfl) ?_
      refine RL.val (x_extract rfl rfl) ?_
      refine RL.val (x_extract rfl rfl) ?_
      refine RL.val (x_assignSl rfl) ?_
      refine RL.val (x_assignSl rfl) ?_
      refine RL.val (x_assignI rfl) ?_
      refine RL.nil ?_
      refine Run.seq ?_
      refine Run.seq ?_
      refine Run.region ?_
      refine RL.val (x_moveI rfl) ?_
      refine RL.val (x_neI rfl rfl) ?_
      refine RL.nil ?_
      refine Run.cond rfl (fun hc20 => ?_) (fun hc20 => ?_)
      · try simp only [br] at hc20
        refine Run.exit rfl ?_
        refine Run.seq ?_
        refine Run.region ?_
        refine RL.val (x_moveSl rfl) ?_
        refine RL.val (x_moveSl rfl) ?_
        refine RL.val (x_lenSl Tryz.underlying74 rfl) ?_
        refine RL.val (x_moveSl rfl) ?_
        refine RL.val (x_lenSl Tryz.underlying74 rfl) ?_
        refine RL.val (litI (c := ((xs.length - lf.length : Nat) : Int)) (x_sub rfl rfl (by omega) (by omega)) (by omega)) ?_
        refine RL.val (x_assignSl rfl) ?_
        refine RL.val (x_assignI rfl) ?_
        refine RL.nil ?_
        refine Run.ret2 (v := .slice (ao) ((rs.map RB.h).length) (co)) (x := .int .i64 (((xs.length - lf.length : Nat) : Int))) Tryz.func185 rfl rfl rfl ?_
        have hE := framesR_err (ne_of_len (by omega)) hU_67
        rw [hE] at hFr hFr2
        simp only [List.append_nil] at hFr
        exact ⟨_, rfl, ao, co, rs, by rw [hFr2], ho_5, hO_3, hFr, pr_10, pr_8, (fun q_ h1 h2 => pr_7 q_ h2 h1), K0⟩
      · try simp only [br] at hc20
        exact absurd hc20 hne
  · try simp only [br] at hc12
    refine Run.exit rfl ?_
    refine Run.seq ?_
    refine Run.region ?_
    refine RL.val (x_moveSl rfl) ?_
    refine RL.val (x_moveSl rfl) ?_
    refine RL.val (x_lenSl Tryz.underlying74 rfl) ?_
    refine RL.val (x_moveSl rfl) ?_
    refine RL.val (x_lenSl Tryz.underlying74 rfl) ?_
    refine RL.val (litI (c := ((xs.length - lf.length : Nat) : Int)) (x_sub rfl rfl (by omega) (by omega)) (by omega)) ?_
    refine RL.val (x_assignSl rfl) ?_
    refine RL.val (x_assignI rfl) ?_
    refine RL.nil ?_
    refine Run.ret2 (v := .slice (ao) ((rs.map RB.h).length) (co)) (x := .int .i64 (((xs.length - lf.length : Nat) : Int))) Tryz.func185 rfl rfl rfl ?_
    have hlf : lf = [] := List.eq_nil_of_length_eq_zero (by omega)
    have hE : framesR lf = ([], lf) := by rw [hlf]; exact framesR_nil
    rw [hE] at hFr hFr2
    simp only [List.append_nil] at hFr
    exact ⟨_, rfl, ao, co, rs, by rw [hFr2], ho_5, hO_3, hFr, pr_10, pr_8, (fun q_ h1 h2 => pr_7 q_ h2 h1), K0⟩

end Go.Proofs.YtnphndfbgdkgbaaGreatDoor
