/-
  Dl, Dn, Do, Dp
-/
import Derived.Test.YtlhepanmdchjoaaGreatDoorRows
import Derived.Test.YtlhepanmdchjoaaGreatDoorPkDk
/-
  DiskPieces, DiskApart.
-/
namespace Go.Proofs.YtlhepanmdchjoaaGreatDoor
attribute [local irreducible] St1 RL RA RT RT1 Run
/-! ### what is synced stays -/
/-- two disks alike -/
def Alike (sy : Bool) (p1 p2 : List PF) : Prop := namesS p1 = namesS p2 ∧ ∀ s ∈ namesS p1, readB p1 s = readB p2 s ∧ (sy = true → syncB p1 s = syncB p2 s)
theorem Alike.refl (sy : Bool) (p : List PF) : Alike sy p p := ⟨rfl, fun _ _ => ⟨rfl, fun _ => rfl⟩⟩
theorem names_len {room : Int} {pl : List PF} (h : PLOk room pl) : (namesS pl).length ≤ 64 := by rw [namesS, sortN_mem.length_eq, List.length_map]; exact h.len
/-! ### crashes -/
set_option maxRecDepth 100000 in
set_option maxHeartbeats 4000000 in
theorem equal_str (a : Option Addr) (xs : List ByteArray) (c : Nat) (d : Option Addr) (ys : List ByteArray) (e : Nat) (w : World) (hs : SlOf w a xs) (ht : SlOf w d ys) (hl : xs.length ≤ 4294967295) :
  Calls Tryz.prog 70 #[.slice (a) (xs.length) (c), .slice (d) (ys.length) (e)] w (Ret (fun v w' => v = .bool (decide (xs = ys)) ∧ Ext w w')) := by
 refine calls_run (n := 26) Tryz.func70 rfl rfl rfl <| Run.seq <| Run.region <| RL.val (x_assignB rfl) <| RL.nil <| Run.seq <| Run.seq <| Run.region ?_; refine RL.val (x_moveSl rfl) <| RL.val (x_lenSl Tryz.underlying61 rfl) <| RL.val (x_moveSl rfl) <| RL.val (x_lenSl Tryz.underlying61 rfl) <| RL.val (x_neI rfl rfl) <| RL.nil ?_; refine Run.cond rfl (fun hc10 => ?_) (fun hc10 => ?_)
 ·try simp only [br] at hc10
  refine Run.seq <| Run.region <| RL.val (x_assignB rfl) <| RL.nil <| Run.ret1 (v := .bool (false)) Tryz.func70 rfl rfl ?_; exact ⟨_, rfl, by rw [decide_eq_false (fun h => hc10 (by rw [h]))], (Keeps.refl _ w)⟩
 ·try simp only [br] at hc10
  have hlen : xs.length = ys.length := by omega
  refine Run.skip <| Run.seq <| Run.seq <| Run.region <| RL.val (x_moveSl rfl) <| RL.val (x_lenSl Tryz.underlying61 rfl) <| RL.val (x_moveI rfl) <| RL.nil ?_; refine Run.block ?_; refine Run.loop (ι := Nat) (fun i ρ' w' => Holds ρ' [(0, .slice (a) (xs.length) (c)), (1, .slice (d) (ys.length) (e)), (12, .int .i64 (((xs.length : Nat) : Int))), (13, .int .i64 (((i : Nat) : Int)))] ∧ Ext w w' ∧ (i ≤ xs.length) ∧ (SameB xs ys i)) (fun i => xs.length - i) 0 ?_ ?_
  ·refine ⟨⟨rfl, rfl, rfl, rfl, trivial⟩, (Keeps.refl _ w), ?_, ?_⟩
   ·omega
   ·exact SameB.zero _ _
  rintro i ρ_3 w_1 ⟨hH_2, K0, hi, hno⟩ ih1; obtain ⟨ρ₀, rfl⟩ := hH_2.ex; clear hH_2; refine Run.seq <| Run.region <| RL.val (x_ltI rfl rfl) <| RL.nil <| Run.seq ?_; refine Run.cond rfl (fun hc14 => ?_) (fun hc14 => ?_)
  ·try simp only [br] at hc14
   refine Run.skip <| Run.seq <| Run.block <| Run.seq <| Run.region <| RL.val (x_moveI rfl) <| RL.val (x_assignI rfl) <| RL.nil ?_; refine Run.seq ?_; obtain ⟨b_6, o_7, x, hx, ha_8, hc_9⟩ := hs.el (i := i) (by first | omega | (simp only [List.length_set]; omega)); have hc_9_lt := hc_9.lt; replace hc_9 := hc_9.ext K0; obtain ⟨b_12, o_13, y, hy, ha_14, hc_15⟩ := ht.el (i := i) (by first | omega | (simp only [List.length_set]; omega)); have hc_15_lt := hc_15.lt; replace hc_15 := hc_15.ext K0; refine Run.draw' (m := 9) (by kernel_rfl) rfl ?_; intro w_4 K_5; replace hc_9 := hc_9.ext K_5; replace hc_15 := hc_15.ext K_5; replace K0 := K0.ext K_5; refine RA.take (v := .slice (a) (xs.length) (c)) 0 rfl (by kernel_rfl) rfl (by rintro _ rfl; exact (x_moveSl rfl)) <| RA.take (v := .int .i64 (((i : Nat) : Int))) 1 rfl (by kernel_rfl) rfl (by rintro _ rfl; exact (x_moveI rfl)) <| RA.take (v := .pointer (some ⟨b_6, o_7 + i * 1, none⟩)) 2 rfl (by kernel_rfl) rfl (by rintro _ rfl; exact (x_idxN Tryz.underlying61 ty9 rfl rfl ha_8 (by first | omega | (simp only [List.length_set]; omega)))) <| RA.take (v := .string (x)) 3 rfl (by kernel_rfl) rfl (by rintro _ rfl; exact (x_ldV (v := .string (x)) (y := x) ty9 rfl hc_9 rfl)) <| RA.take (v := .slice (d) (ys.length) (e)) 4 rfl (by kernel_rfl) rfl (by rintro _ rfl; exact (x_moveSl rfl)) <| RA.take (v := .int .i64 (((i : Nat) : Int))) 5 rfl (by kernel_rfl) rfl (by rintro _ rfl; exact (x_moveI rfl)) <| RA.take (v := .pointer (some ⟨b_12, o_13 + i * 1, none⟩)) 6 rfl (by kernel_rfl) rfl (by rintro _ rfl; exact (x_idxN Tryz.underlying61 ty9 rfl rfl ha_14 (by first | omega | (simp only [List.length_set]; omega)))) <| RA.take (v := .string (y)) 7 rfl (by kernel_rfl) rfl (by rintro _ rfl; exact (x_ldV (v := .string (y)) (y := y) ty9 rfl hc_15 rfl)) ?_; refine RA.take (v := .bool (!decide (x = y))) 8 rfl (by kernel_rfl) rfl (by rintro _ rfl; exact (x_neS rfl rfl)) <| RA.done (by kernel_rfl) ?_; refine Run.cond rfl (fun hc24 => ?_) (fun hc24 => ?_)
   ·try simp only [br] at hc24
    refine Run.seq <| Run.region <| RL.val (x_assignB rfl) <| RL.nil <| Run.ret1 (v := .bool (false)) Tryz.func70 rfl rfl ?_; exact ⟨_, rfl, by rw [decide_eq_false (ne_of_at hx hy hc24)], K0⟩
   ·try simp only [br] at hc24
    refine Run.skip <| Run.inBlock <| Run.region <| RL.val (litI (c := ((i + 1 : Nat) : Int)) (x_add rfl rfl (by omega) (by omega)) rfl) <| RL.val (x_moveI rfl) <| RL.nil ?_; refine ih1 (i + 1) _ _ ?_ (by omega); refine ⟨⟨rfl, rfl, rfl, rfl, trivial⟩, K0, ?_, ?_⟩
    ·omega
    ·exact hno.step hx hy hc24
  ·try simp only [br] at hc14
   refine Run.exit rfl <| Run.seq <| Run.region <| RL.val (x_assignB rfl) <| RL.nil <| Run.ret1 (v := .bool (true)) Tryz.func70 rfl rfl ?_; exact ⟨_, rfl, by rw [decide_eq_true (hno.all hlen (by omega))], K0⟩
end Go.Proofs.YtlhepanmdchjoaaGreatDoor

/-
  The reference's disk, first part.
-/
namespace Go.Proofs.YtlhepanmdchjoaaGreatDoor
attribute [local irreducible] St1 RL RA RT RT1 Run
/-! ### the reference's disk in memory -/
structure FileC where
  name : ByteArray
  b : SH
  synced : Int
instance : Enc FileC := Enc.struct (fun t => [.string t.name, .slice t.b.a t.b.len t.b.cap, .int .i64 t.synced]) 3 (fun _ => rfl) (fun _ v hv => by simp at hv; rcases hv with rfl | rfl | rfl <;> rfl) (by decide)
structure RF where
  name : ByteArray
  a : Option Addr
  cap : Nat
  bytes : List UInt8
  synced : Nat
def RF.p (r : RF) : PF := ⟨r.name, r.bytes, r.synced⟩
def RF.c (r : RF) : FileC := ⟨r.name, ⟨r.a, r.bytes.length, r.cap⟩, (r.synced : Int)⟩
def bytesS (rs : List RF) : Nat → Prop := fun q => ∃ r ∈ rs, own r.a q
structure BytesAt (w : World) (rs : List RF) : Prop where
  all : ∀ r ∈ rs, SlOf w r.a r.bytes ∧ (∀ q, own r.a q → q < w.heap.size) ∧ r.bytes.length ≤ r.cap
def writeS (x : Nat) (al : Option Addr) : Nat → Prop := fun q => q = x ∨ own al q
def refS (x : Nat) (al : Option Addr) (rs : List RF) : Nat → Prop := fun q => writeS x al q ∨ bytesS rs q
structure RefM (w : World) (x : Nat) (al : Option Addr) (cl : Nat) (room : Int) (rs : List RF) : Prop where
  blk : Blk w x [.int .i64 room, .slice al (rs.map RF.c).length cl] 123
  own : OwnSl w 120 al cl (rs.map RF.c)
  bytes : BytesAt w rs
  ox : ¬ Go.Proofs.YtlhepanmdchjoaaGreatDoor.own al x
  bx : ¬ bytesS rs x
  bo : ∀ q, bytesS rs q → ¬ Go.Proofs.YtlhepanmdchjoaaGreatDoor.own al q
def SortedL (l : List PF) : Prop := l.Pairwise (fun f g => f.name.data.toList < g.name.data.toList)
structure RefO (w : World) (x : Nat) (al : Option Addr) (cl : Nat) (room : Int) (rs : List RF) : Prop where
  mem : RefM w x al cl room rs
  ok : PLOk room (rs.map RF.p)
  sorted : SortedL (rs.map RF.p)
/-- the reference's disk: its blocks, its room, its files in whatever order -/
def RefAt (w : World) (x : Nat) (F : Nat → Prop) (room : Int) (pl : List PF) : Prop := ∃ al cl rs, F = refS x al rs ∧ (rs.map RF.p).Perm pl ∧ RefO w x al cl room rs
section
variable {w w' : World} {S F : Nat → Prop} {x : Nat} {al : Option Addr} {cl : Nat} {room : Int} {rs : List RF} {pl : List PF}
theorem BytesAt.own_lt (h : BytesAt w rs) : ∀ q, bytesS rs q → q < w.heap.size := fun q ⟨r, hr, hq⟩ => (h.all r hr).2.1 q hq
theorem BytesAt.keepO (h : BytesAt w rs) (k : Keeps S w w') (hn : ∀ q, bytesS rs q → ¬ S q) : BytesAt w' rs :=
 ⟨fun r hr => ⟨(h.all r hr).1.keep k (fun x hx => hn _ ⟨r, hr, x, hx, rfl⟩), fun q hq => Nat.lt_of_lt_of_le ((h.all r hr).2.1 q hq) k.size, (h.all r hr).2.2⟩⟩
theorem BytesAt.ext (h : BytesAt w rs) (k : Ext w w') : BytesAt w' rs := h.keepO k fun _ _ => id
theorem BytesAt.nil (w : World) : BytesAt w [] := ⟨fun _ h => absurd h (by simp)⟩
theorem BytesAt.sub (h : BytesAt w rs) {l : List RF} (hs : ∀ r ∈ l, r ∈ rs) : BytesAt w l := ⟨fun r hr => h.all r (hs r hr)⟩
theorem bytesS_sub {l : List RF} (hs : ∀ r ∈ l, r ∈ rs) : ∀ q, bytesS l q → bytesS rs q := fun q ⟨r, hr, hq⟩ => ⟨r, hs r hr, hq⟩
theorem RefM.own_lt (h : RefM w x al cl room rs) : ∀ q, refS x al rs q → q < w.heap.size := by
 rintro q ((rfl | hq) | hq)
 ·exact h.blk.lt
 ·exact h.own.own_lt q hq
 ·exact h.bytes.own_lt q hq
theorem RefM.keepO (h : RefM w x al cl room rs) (k : Keeps S w w') (hn : ∀ q, refS x al rs q → ¬ S q) : RefM w' x al cl room rs :=
 ⟨h.blk.keep k (hn _ (.inl (.inl rfl))), h.own.keepO k (fun q hq => hn q (.inl (.inr hq))), h.bytes.keepO k (fun q hq => hn q (.inr hq)), h.ox, h.bx, h.bo⟩
theorem RefAt.own_lt (h : RefAt w x F room pl) : ∀ q, F q → q < w.heap.size := by obtain ⟨al, cl, rs, rfl, _, h⟩ := h; exact h.mem.own_lt
theorem RefAt.keepO (h : RefAt w x F room pl) (k : Keeps S w w') (hn : ∀ q, F q → ¬ S q) : RefAt w' x F room pl := by obtain ⟨al, cl, rs, rfl, hp, h⟩ := h; exact ⟨al, cl, rs, rfl, hp, h.mem.keepO k hn, h.ok, h.sorted⟩
theorem RefAt.ext (h : RefAt w x F room pl) (k : Ext w w') : RefAt w' x F room pl := h.keepO k fun _ _ => id
theorem RefAt.ok (h : RefAt w x F room pl) : PLOk room pl := by obtain ⟨al, cl, rs, rfl, hp, h⟩ := h; exact h.ok.perm hp
theorem rf_get {i : Nat} {c : FileC} (h : (rs.map RF.c)[i]? = some c) : ∃ r, rs[i]? = some r ∧ c = r.c := by
 rw [List.getElem?_map, Option.map_eq_some_iff] at h; obtain ⟨r, hr, e⟩ := h; exact ⟨r, hr, e.symm⟩
theorem rf_names (rs : List RF) : (rs.map RF.p).map (·.name) = rs.map (·.name) := by simp [RF.p]
theorem sorted_names {l : List PF} (h : SortedL l) : namesS l = l.map (·.name) := by
 have h1 : ((l.map (·.name)).map (fun s : ByteArray => s.data.toList)).mergeSort leB = (l.map (·.name)).map (fun s : ByteArray => s.data.toList) := by
  refine List.mergeSort_of_pairwise ?_; rw [List.pairwise_map, List.pairwise_map]; exact h.imp fun h => by simp only [leB, decide_eq_true_eq]; exact List.le_of_lt h
 rw [namesS, sortN, h1, List.map_map]; have : ((fun b => (⟨b.toArray⟩ : ByteArray)) ∘ fun (s : ByteArray) => s.data.toList) = id := funext fun s => data_back s; rw [this, List.map_id]
theorem used_take {i : Nat} {r : RF} (h : rs[i]? = some r) : usedL ((rs.take (i + 1)).map RF.p) = usedL ((rs.take i).map RF.p) + r.bytes.length := by rw [take_snoc h]; simp [usedL, RF.p]
theorem usedR_le (rs : List RF) (i : Nat) : usedL ((rs.take i).map RF.p) ≤ usedL (rs.map RF.p) := usedL_sub ((List.take_sublist i rs).map _)
theorem mayR_end {s : ByteArray} (h : NoB (fun c => !okC c) s.data.toList s.data.toList.length) : mayN s = (decide (1 ≤ ((s.size : Nat) : Int)) && decide (((s.size : Nat) : Int) ≤ 32)) := by
 rw [mayN_end h, emptyS]; rw [Bool.eq_iff_iff]; simp only [Bool.and_eq_true, decide_eq_true_eq, Bool.not_eq_true', decide_eq_false_iff_not]; omega
def keepR (n : ByteArray) (rs : List RF) (i : Nat) : List RF := (rs.take i).filter (fun r => decide (r.name ≠ n))
theorem keepR_len (n : ByteArray) (rs : List RF) (i : Nat) : (keepR n rs i).length ≤ rs.length := by
 unfold keepR; have := List.length_filter_le (fun r => decide (r.name ≠ n)) (rs.take i); have := List.length_take_le i rs; have := List.length_take (i := i) (l := rs); omega
theorem keepR_yes {n : ByteArray} {i : Nat} {r : RF} (h : rs[i]? = some r) (hn : r.name ≠ n) : (keepR n rs i).map RF.c ++ [r.c] = (keepR n rs (i + 1)).map RF.c := by
 rw [keepR, keepR, take_snoc h, List.filter_append, List.filter_cons, if_pos (by simpa using hn)]; simp
theorem keepR_no {n : ByteArray} {i : Nat} {r : RF} (h : rs[i]? = some r) (hn : r.name = n) : keepR n rs (i + 1) = keepR n rs i := by
 rw [keepR, keepR, take_snoc h, List.filter_append, List.filter_cons, if_neg (by simp [hn])]; simp
theorem keepR_all (n : ByteArray) (rs : List RF) : (keepR n rs rs.length).map RF.p = remL (rs.map RF.p) n := by
 rw [keepR, List.take_length, remL, List.filter_map]; rfl
theorem keepR_sub (n : ByteArray) (rs : List RF) (i : Nat) : ∀ r ∈ keepR n rs i, r ∈ rs := fun r hr => List.mem_of_mem_take (List.mem_filter.1 hr).1
/-- a file in its place -/
def insR (r : RF) : List RF → List RF
  | [] => [r]
  | y :: l => if r.name.data.toList < y.name.data.toList then r :: y :: l else y :: insR r l
theorem insR_perm (r : RF) : ∀ l, (insR r l).Perm (l ++ [r])
 | [] => List.Perm.refl _
 | y :: l => by
  rw [insR]
  split
  ·exact (List.perm_append_singleton r (y :: l)).symm
  ·exact (insR_perm r l).cons y
theorem insR_mem {r z : RF} {l : List RF} (h : z ∈ insR r l) : z ∈ r :: l := by have := (insR_perm r l).mem_iff.1 h; simp at this ⊢; exact this.symm
theorem insR_sorted {r : RF} : ∀ {l : List RF}, SortedL (l.map RF.p) → (∀ y ∈ l, y.name ≠ r.name) → SortedL ((insR r l).map RF.p)
 | [], _, _ => by simp [insR, SortedL]
 | y :: l, h, hn => by
  rw [SortedL, List.map_cons, List.pairwise_cons] at h; have hy : ∀ z ∈ l, y.name.data.toList < z.name.data.toList := fun z hz => h.1 z.p (List.mem_map.2 ⟨z, hz, rfl⟩); rw [insR]
  split
  ·rename_i hlt
   rw [SortedL, List.map_cons, List.map_cons, List.pairwise_cons, List.pairwise_cons]; refine ⟨fun z hz => ?_, fun z hz => h.1 z hz, h.2⟩; rcases List.mem_cons.1 hz with rfl | hz
   ·exact hlt
   ·obtain ⟨q, hq, rfl⟩ := List.mem_map.1 hz
    exact List.lt_trans hlt (hy q hq)
  ·rename_i hge
   rw [SortedL, List.map_cons, List.pairwise_cons]; refine ⟨fun z hz => ?_, insR_sorted h.2 (fun z hz => hn z (List.mem_cons_of_mem _ hz))⟩; obtain ⟨q, hq, rfl⟩ := List.mem_map.1 hz; have hne : y.name.data.toList ≠ r.name.data.toList := fun e => hn y (by simp) (by rw [← data_back y.name, ← data_back r.name, e])
   have hyr : y.name.data.toList < r.name.data.toList := by
    by_cases c : y.name.data.toList < r.name.data.toList
    ·exact c
    ·exact absurd (List.le_antisymm (List.not_lt.1 hge) (List.not_lt.1 c)) hne
   rcases List.mem_cons.1 (insR_mem hq) with rfl | hq
   ·exact hyr
   ·exact hy q hq
/-- the state of putting r in: what is built, whether r is in it -/
def InsI (r : RF) (rs : List RF) (i : Nat) (out : List RF) (dn : Bool) : Prop := (dn = false ∧ out = rs.take i ∧ insR r rs = rs.take i ++ insR r (rs.drop i)) ∨ (dn = true ∧ insR r rs = out ++ rs.drop i)
theorem InsI.zero (r : RF) (rs : List RF) : InsI r rs 0 [] false := .inl ⟨rfl, by simp, by simp⟩
theorem InsI.in {r y : RF} {i : Nat} {out : List RF} {dn : Bool} (h : InsI r rs i out dn) (hy : rs[i]? = some y) (hd : dn = false) (hlt : r.name.data.toList < y.name.data.toList) : InsI r rs (i + 1) (out ++ [r] ++ [y]) true := by
 rcases h with ⟨_, h1, h2⟩ | ⟨h1, _⟩
 ·refine .inr ⟨rfl, ?_⟩
  rw [h2, drop_cons hy, insR, if_pos hlt, h1]; simp
 ·rw [hd] at h1; cases h1
theorem InsI.on {r y : RF} {i : Nat} {out : List RF} {dn : Bool} (h : InsI r rs i out dn) (hy : rs[i]? = some y) (hd : dn = true ∨ ¬ r.name.data.toList < y.name.data.toList) : InsI r rs (i + 1) (out ++ [y]) dn := by
 rcases h with ⟨h0, h1, h2⟩ | ⟨h0, h1⟩
 ·refine .inl ⟨h0, by rw [h1, take_snoc hy], ?_⟩
  rw [h2, drop_cons hy, insR, if_neg (hd.resolve_left (by rw [h0]; decide)), take_snoc hy]; simp
 ·exact .inr ⟨h0, by rw [h1, drop_cons hy]; simp⟩
theorem InsI.end1 {r : RF} {out : List RF} (h : InsI r rs rs.length out true) : out = insR r rs := by
 rcases h with ⟨h0, _⟩ | ⟨_, h1⟩
 ·cases h0
 ·rw [h1, List.drop_length, List.append_nil]
theorem InsI.end0 {r : RF} {out : List RF} (h : InsI r rs rs.length out false) : out ++ [r] = insR r rs := by
 rcases h with ⟨_, h1, h2⟩ | ⟨h0, _⟩
 ·rw [h2, h1, List.drop_length]; rfl
 ·cases h0
theorem InsI.len {r : RF} {i : Nat} {out : List RF} {dn : Bool} (h : InsI r rs i out dn) : out.length ≤ rs.length + 1 := by
 rcases h with ⟨_, h1, _⟩ | ⟨_, h1⟩
 ·rw [h1, List.length_take]; omega
 ·have := congrArg List.length h1
  rw [(insR_perm r rs).length_eq] at this; simp at this; omega
end
theorem ty120 : Ty Tryz.prog 120 3 48 (.agg #[.string (⟨#[]⟩), .slice (none) (0) (0), .int .i64 (0)]) true := ty_of (by kernel_rfl) (by kernel_rfl)
theorem ty121 : Ty Tryz.prog 121 1 24 (.slice (none) (0) (0)) false := ty_of (by kernel_rfl) (by kernel_rfl)
theorem en91 : Enters Tryz.prog 91 := enters_of Tryz.func91 rfl (by kernel_rfl)
theorem en92 : Enters Tryz.prog 92 := enters_of Tryz.func92 rfl (by kernel_rfl)
set_option maxRecDepth 100000 in
set_option maxHeartbeats 4000000 in
theorem mayR (s : ByteArray) (w : World) (hs : s.size ≤ 4294967295) :
  Calls Tryz.prog 91 #[.string (s)] w (Ret (fun v w' => v = .bool (mayN s) ∧ Ext w w')) := by
 have hsl : s.data.toList.length = s.size := dataLen s; refine calls_run (n := 59) Tryz.func91 rfl rfl rfl <| Run.seq <| Run.region <| RL.val (x_assignB rfl) <| RL.nil <| Run.seq <| Run.seq <| Run.region ?_; refine RL.val (x_assignI rfl) <| RL.nil <| Run.block ?_; refine Run.loop (ι := Nat) (fun i ρ' w' => Holds ρ' [(0, .string (s)), (3, .int .i64 (((i : Nat) : Int)))] ∧ Ext w w' ∧ (i ≤ s.data.toList.length) ∧ (NoB (fun c => !okC c) s.data.toList i)) (fun i => s.data.toList.length - i) 0 ?_ ?_
 ·refine ⟨⟨rfl, rfl, trivial⟩, (Keeps.refl _ w), ?_, ?_⟩
  ·omega
  ·exact NoB.zero _ _
 rintro i ρ_3 w_1 ⟨hH_2, K0, hi, hno⟩ ih1; obtain ⟨ρ₀, rfl⟩ := hH_2.ex; clear hH_2; refine Run.seq <| Run.seq <| Run.region <| RL.val (x_moveI rfl) <| RL.val (x_moveS rfl) <| RL.val (x_lenStr Tryz.underlying9 rfl) <| RL.val (x_ltI rfl rfl) <| RL.nil ?_; refine Run.cond rfl (fun hc9 => ?_) (fun hc9 => ?_)
 ·try simp only [br] at hc9
  refine Run.skip <| Run.seq <| Run.block <| Run.seq ?_; obtain ⟨c, hx⟩ : ∃ c, s.data.toList[i]? = some c := ⟨_, List.getElem?_eq_getElem (by omega)⟩; refine Run.region <| RL.val (x_moveS rfl) <| RL.val (x_moveI rfl) <| RL.val (x_idxStrN Tryz.underlying9 rfl rfl hx) <| RL.val (x_assignI rfl) <| RL.nil <| Run.seq <| Run.region ?_; refine RL.val (x_moveI rfl) <| RL.val (x_geI rfl rfl) <| RL.val (x_moveB rfl) <| RL.gval (wantedT rfl rfl rfl rfl) (fun hg => (x_moveI rfl)) <| RL.gval (wantedT rfl rfl rfl rfl) (fun hg => (x_leI (gvr hg) rfl)) <| RL.val (x_and rfl rfl rfl) <| RL.val (x_moveB rfl) <| RL.gval (wantedF rfl rfl rfl rfl) (fun hg => (x_moveI rfl)) ?_; refine RL.gval (wantedF rfl rfl rfl rfl) (fun hg => (x_geI (gvr hg) rfl)) <| RL.gval (wantedF rfl rfl rfl rfl) (fun hg => (x_moveB (gvr hg))) <| RL.gval (wantedGT rfl rfl rfl rfl) (fun hg => (x_moveI rfl)) <| RL.gval (wantedGT rfl rfl rfl rfl) (fun hg => (x_leI (gvr hg) rfl)) <| RL.gval (wantedF rfl rfl rfl rfl) (fun hg => (x_andG hg rfl rfl rfl)) <| RL.val (x_or rfl rfl rfl) <| RL.val (x_moveB rfl) <| RL.gval (wantedF rfl rfl rfl rfl) (fun hg => (x_moveI rfl)) ?_; refine RL.gval (wantedF rfl rfl rfl rfl) (fun hg => (x_geI (gvr hg) rfl)) <| RL.gval (wantedF rfl rfl rfl rfl) (fun hg => (x_moveB (gvr hg))) <| RL.gval (wantedGT rfl rfl rfl rfl) (fun hg => (x_moveI rfl)) <| RL.gval (wantedGT rfl rfl rfl rfl) (fun hg => (x_leI (gvr hg) rfl)) <| RL.gval (wantedF rfl rfl rfl rfl) (fun hg => (x_andG hg rfl rfl rfl)) <| RL.val (x_or rfl rfl rfl) <| RL.val (x_assignB rfl) <| RL.nil ?_; refine Run.seq <| Run.region <| RL.val (x_moveB rfl) <| RL.val (x_not rfl) <| RL.val (x_moveB rfl) <| RL.gval (wantedT rfl rfl rfl rfl) (fun hg => (x_moveI rfl)) <| RL.gval (wantedT rfl rfl rfl rfl) (fun hg => (x_neI (gvr hg) rfl)) <| RL.val (x_and rfl rfl rfl) ?_; refine RL.val (x_moveB rfl) <| RL.gval (wantedT rfl rfl rfl rfl) (fun hg => (x_moveI rfl)) <| RL.gval (wantedT rfl rfl rfl rfl) (fun hg => (x_neI (gvr hg) rfl)) <| RL.val (x_and rfl rfl rfl) <| RL.val (x_moveB rfl) <| RL.gval (wantedT rfl rfl rfl rfl) (fun hg => (x_moveI rfl)) <| RL.gval (wantedT rfl rfl rfl rfl) (fun hg => (x_neI (gvr hg) rfl)) <| RL.val (x_and rfl rfl rfl) ?_; refine RL.nil ?_; refine Run.cond rfl (fun hc50 => ?_) (fun hc50 => ?_)
  ·try simp only [br] at hc50
   refine Run.seq <| Run.region <| RL.val (x_assignB rfl) <| RL.nil <| Run.ret1 (v := .bool (false)) Tryz.func91 rfl rfl ?_
   exact ⟨_, rfl, by rw [mayN_no hx (by cases hq : okC c with
     | false => rfl
     | true => exfalso; have hq2 := of_decide_eq_true hq; omega)], K0⟩
  ·try simp only [br] at hc50
   have hok1 : okC c = true := by
    first
    | (refine okC_yes ?_; omega)
    | (cases hq : okC c with
     | true => rfl
     | false => exfalso; have hq2 := okC_no hq; omega)
   refine Run.skip <| Run.inBlock <| Run.region <| RL.val (x_moveI rfl) <| RL.val (litI (c := ((i + 1 : Nat) : Int)) (x_add rfl rfl (by omega) (by omega)) rfl) <| RL.val (x_assignI rfl) <| RL.nil ?_; refine ih1 (i + 1) _ _ ?_ (by omega); refine ⟨⟨rfl, rfl, trivial⟩, K0, ?_, ?_⟩
   ·omega
   ·exact hno.step hx (by rw [hok1]; rfl)
 ·try simp only [br] at hc9
  refine Run.exit rfl <| Run.seq <| Run.region <| RL.val (x_moveS rfl) <| RL.val (x_lenStr Tryz.underlying9 rfl) <| RL.val (x_geI rfl rfl) <| RL.val (x_moveB rfl) <| RL.gval (wantedT rfl rfl rfl rfl) (fun hg => (x_moveS rfl)) ?_; refine RL.gval (wantedT rfl rfl rfl rfl) (fun hg => (x_lenStr Tryz.underlying9 (gvr hg))) <| RL.gval (wantedT rfl rfl rfl rfl) (fun hg => (x_leI (gvr hg) rfl)) <| RL.val (x_and rfl rfl rfl) <| RL.val (x_assignB rfl) <| RL.nil <| Run.ret1 (v := .bool ((decide (1 ≤ (((s).size : Nat) : Int))) && (decide ((((s).size : Nat) : Int) ≤ 32)))) Tryz.func91 rfl rfl ?_; have hil : i = s.data.toList.length := by omega
  subst hil; exact ⟨_, rfl, by rw [mayR_end hno], K0⟩
set_option maxRecDepth 100000 in
set_option maxHeartbeats 4000000 in
theorem findR (x : Nat) (al : Option Addr) (cl : Nat) (room : Int) (rs : List RF) (name : ByteArray) (w : World) (hD : RefM w x al cl room rs) (hl : rs.length ≤ 65) :
  Calls Tryz.prog 92 #[.pointer (some ⟨x, 0, none⟩), .string (name)] w (Ret (fun v w' => v = .int .i64 (findI (fun r : RF => decide (r.name = name)) rs) ∧ Ext w w')) := by
 obtain ⟨hb, ho, hy, hox, hbx, hbo⟩ := hD; have hml : (rs.map RF.c).length = rs.length := List.length_map ..; refine calls_run (n := 26) Tryz.func92 rfl rfl rfl <| Run.seq <| Run.region <| RL.val (x_assignI rfl) <| RL.nil <| Run.seq <| Run.seq <| Run.region ?_; refine RL.val (x_assignI rfl) <| RL.nil <| Run.block ?_; refine Run.loop (ι := Nat) (fun i ρ' w' => Holds ρ' [(0, .pointer (some ⟨x, 0, none⟩)), (1, .string (name)), (5, .int .i64 (((i : Nat) : Int)))] ∧ Ext w w' ∧ (Blk w' x [.int .i64 (room), .slice (al) ((rs.map RF.c).length) (cl)] 123) ∧ (OwnSl w' 120 (al) (cl) (rs.map RF.c)) ∧ (BytesAt w' rs) ∧ (i ≤ rs.length) ∧ (NoB (fun r : RF => decide (r.name = name)) rs i)) (fun i => rs.length - i) 0 ?_ ?_
 ·refine ⟨⟨rfl, rfl, rfl, trivial⟩, (Keeps.refl _ w), hb, ho, hy, ?_, ?_⟩
  ·omega
  ·exact NoB.zero _ _
 clear hb ho hy; rintro i ρ_3 w_1 ⟨hH_2, K0, hb, ho, hy, hi, hno⟩ ih1; obtain ⟨ρ₀, rfl⟩ := hH_2.ex; clear hH_2; refine Run.seq <| Run.seq <| Run.region <| RL.val (x_moveI rfl) <| RL.val (x_moveP rfl) <| RL.val (x_nilCheck rfl) <| RL.val (x_fld (o' := 1) Tryz.underlying123 rfl ty121 rfl rfl rfl) <| RL.val (x_ld (v := .slice (al) ((rs.map RF.c).length) (cl)) ty121 rfl rfl (hb.cl.field (i := 1) rfl)) ?_; refine RL.val (x_lenSl Tryz.underlying121 rfl) <| RL.val (x_ltI rfl rfl) <| RL.nil ?_; refine Run.cond rfl (fun hc12 => ?_) (fun hc12 => ?_)
 ·try simp only [br] at hc12
  refine Run.skip <| Run.seq <| Run.block <| Run.seq <| Run.region <| RL.val (x_moveP rfl) <| RL.val (x_nilCheck rfl) <| RL.val (x_fld (o' := 1) Tryz.underlying123 rfl ty121 rfl rfl rfl) ?_; refine RL.val (x_ld (v := .slice (al) ((rs.map RF.c).length) (cl)) ty121 rfl rfl (hb.cl.field (i := 1) rfl)) <| RL.val (x_moveI rfl) ?_; obtain ⟨b_4, o_5, y, hx, ha_6, hc_7⟩ := ho.sl.el (i := i) (by first | omega | (simp only [List.length_set]; omega)); refine RL.val (x_idxN Tryz.underlying121 ty120 rfl rfl ha_6 (by first | omega | (simp only [List.length_set]; omega))) <| RL.val (x_fld (o' := o_5 + i * 3 + 0) Tryz.underlying120 rfl ty9 rfl rfl rfl) <| RL.val (x_ld ty9 rfl rfl (hc_7.field (i := 0) rfl)) <| RL.val (x_moveS rfl) <| RL.val (x_eqS rfl rfl) <| RL.nil ?_; obtain ⟨r, hr, hxr⟩ := rf_get hx; have hn_r : y.name = r.name := by rw [hxr]; rfl
  refine Run.cond rfl (fun hc24 => ?_) (fun hc24 => ?_)
  ·try simp only [br] at hc24
   refine Run.seq <| Run.region <| RL.val (x_moveI rfl) <| RL.val (x_assignI rfl) <| RL.nil <| Run.ret1 (v := .int .i64 (((i : Nat) : Int))) Tryz.func92 rfl rfl ?_; exact ⟨_, rfl, by rw [findI_at hr (by simpa using hn_r.symm.trans hc24) hno], K0⟩
  ·try simp only [br] at hc24
   refine Run.skip <| Run.inBlock <| Run.region <| RL.val (x_moveI rfl) <| RL.val (litI (c := ((i + 1 : Nat) : Int)) (x_add rfl rfl (by omega) (by omega)) rfl) <| RL.val (x_assignI rfl) <| RL.nil ?_; refine ih1 (i + 1) _ _ ?_ (by omega); refine ⟨⟨rfl, rfl, rfl, trivial⟩, K0, hb, ho, hy, ?_, ?_⟩
   ·omega
   ·exact hno.step hr (by simpa [hn_r] using hc24)
 ·try simp only [br] at hc12
  refine Run.exit rfl <| Run.seq <| Run.region <| RL.val (x_assignI rfl) <| RL.nil <| Run.ret1 (v := .int .i64 (-1)) Tryz.func92 rfl rfl ?_; exact ⟨_, rfl, by rw [findI_no hno (by omega)], K0⟩
theorem rfind (rs : List RF) (n : ByteArray) : ((∀ r ∈ rs, r.name ≠ n) ∧ findI (fun r : RF => decide (r.name = n)) rs = -1) ∨ ∃ (i : Nat) (r : RF), rs[i]? = some r ∧ r.name = n ∧ findI (fun r : RF => decide (r.name = n)) rs = (i : Int) := by
 unfold findI
 cases h : rs.findIdx? (fun r : RF => decide (r.name = n)) with
 | none =>
  rw [List.findIdx?_eq_none_iff] at h; exact .inl ⟨fun r hr => by simpa using h r hr, rfl⟩
 | some i =>
  obtain ⟨hi, h1, _⟩ := List.findIdx?_eq_some_iff_getElem.1 h; exact .inr ⟨i, rs[i], List.getElem?_eq_getElem hi, by simpa using h1, rfl⟩
set_option maxRecDepth 100000 in
set_option maxHeartbeats 4000000 in
theorem lookR (x : Nat) (al : Option Addr) (cl : Nat) (room : Int) (rs : List RF) (name : ByteArray) (w : World) (hD : RefM w x al cl room rs) (hl : rs.length ≤ 65) (hs : name.size ≤ 4294967295) :
  Calls Tryz.prog 75 #[.pointer (some ⟨x, 0, none⟩), .string (name)] w (Ret (fun v w' => Ext w w' ∧ ((mayN name = false ∧ v = .tuple #[.int .i64 0, .int .i64 6]) ∨ (mayN name = true ∧ (∀ r ∈ rs, r.name ≠ name) ∧ v = .tuple #[.int .i64 0, .int .i64 20]) ∨ (mayN name = true ∧ ∃ (i : Nat) (r : RF), rs[i]? = some r ∧ r.name = name ∧ v = .tuple #[.int .i64 ((i : Nat) : Int), .int .i64 0])))) := by
 obtain ⟨hb, ho, hy, hox, hbx, hbo⟩ := hD; have hml : (rs.map RF.c).length = rs.length := List.length_map ..; refine calls_run (n := 16) Tryz.func75 rfl rfl rfl <| Run.seq <| Run.region <| RL.val (x_assignI rfl) <| RL.val (x_assignI rfl) <| RL.nil <| Run.seq <| Run.seq ?_; refine Run.region <| RL.val (x_moveS rfl) <| RL.st rfl <| St1.call (vals := [.string (name)]) en91 rfl (mayR name _ (by omega)) ?_; rintro _ w_1 ⟨rfl, K_2⟩; replace hb := hb.ext K_2; replace ho := ho.ext K_2; replace hy := hy.ext K_2; have K0 := (K_2 : Ext w _); refine RL.val (x_not rfl) <| RL.nil ?_; refine Run.cond rfl (fun hc9 => ?_) (fun hc9 => ?_)
 ·try simp only [br] at hc9
  refine Run.seq <| Run.region <| RL.val (x_assignI rfl) <| RL.val (x_assignI rfl) <| RL.nil <| Run.ret2 (v := .int .i64 (0)) (x := .int .i64 (6)) Tryz.func75 rfl rfl rfl ?_; exact ⟨_, rfl, K0, .inl ⟨by simpa using hc9, rfl⟩⟩
 ·try simp only [br] at hc9
  refine Run.skip <| Run.seq <| Run.region <| RL.val (x_moveP rfl) <| RL.val (x_moveS rfl) <| RL.st rfl <| St1.call (vals := [.pointer (some ⟨x, 0, none⟩), .string (name)]) en92 rfl (findR x al cl room rs name _ (⟨hb, ho, hy, hox, hbx, hbo⟩ : RefM _ x al cl room rs) (by omega)) ?_; rintro _ w_3 ⟨rfl, K_4⟩; rcases rfind rs name with ⟨hrno, hf_5⟩ | ⟨ri, r, hr, hrn, hf_5⟩
  ·rw [hf_5]
   replace hb := hb.ext K_4; replace ho := ho.ext K_4; replace hy := hy.ext K_4; replace K0 := K0.ext K_4; refine RL.val (x_assignI rfl) <| RL.nil <| Run.seq <| Run.seq <| Run.region <| RL.val (x_moveI rfl) <| RL.val (litT (x_ltI rfl rfl) (by decide)) <| RL.nil ?_; refine Run.condT rfl <| Run.seq <| Run.region <| RL.val (x_assignI rfl) <| RL.val (x_assignI rfl) <| RL.nil <| Run.ret2 (v := .int .i64 (0)) (x := .int .i64 (20)) Tryz.func75 rfl rfl rfl ?_; exact ⟨_, rfl, K0, .inr (.inl ⟨by simpa using hc9, hrno, rfl⟩)⟩
  ·rw [hf_5]
   have hrl : ri < rs.length := (List.getElem?_eq_some_iff.1 hr).1; replace hb := hb.ext K_4; replace ho := ho.ext K_4; replace hy := hy.ext K_4; replace K0 := K0.ext K_4; refine RL.val (x_assignI rfl) <| RL.nil <| Run.seq <| Run.seq <| Run.region <| RL.val (x_moveI rfl) <| RL.val (litF (x_ltI rfl rfl) (decide_eq_false (by omega))) <| RL.nil ?_; refine Run.condF rfl <| Run.skip <| Run.seq <| Run.region <| RL.val (x_moveI rfl) <| RL.val (x_assignI rfl) <| RL.val (x_assignI rfl) <| RL.nil ?_; refine Run.ret2 (v := .int .i64 (((ri : Nat) : Int))) (x := .int .i64 (0)) Tryz.func75 rfl rfl rfl ?_; exact ⟨_, rfl, K0, .inr (.inr ⟨by simpa using hc9, ri, r, hr, hrn, rfl⟩)⟩
set_option maxRecDepth 100000 in
set_option maxHeartbeats 4000000 in
theorem usedR (x : Nat) (al : Option Addr) (cl : Nat) (room : Int) (rs : List RF) (w : World) (hD : RefM w x al cl room rs) (hl : rs.length ≤ 65) (hu : usedL (rs.map RF.p) ≤ 16777216) :
  Calls Tryz.prog 93 #[.pointer (some ⟨x, 0, none⟩)] w (Ret (fun v w' => v = .int .i64 ((usedL (rs.map RF.p) : Nat) : Int) ∧ Ext w w')) := by
 obtain ⟨hb, ho, hy, hox, hbx, hbo⟩ := hD; have hml : (rs.map RF.c).length = rs.length := List.length_map ..; refine calls_run (n := 26) Tryz.func93 rfl rfl rfl <| Run.seq <| Run.region <| RL.val (x_assignI rfl) <| RL.nil <| Run.seq <| Run.region <| RL.val (x_assignI rfl) ?_; refine RL.nil <| Run.seq <| Run.seq <| Run.region <| RL.val (x_assignI rfl) <| RL.nil <| Run.block ?_; refine Run.loop (ι := Nat) (fun i ρ' w' => Holds ρ' [(0, .pointer (some ⟨x, 0, none⟩)), (3, .int .i64 (((usedL ((rs.take i).map RF.p) : Nat) : Int))), (4, .int .i64 (((i : Nat) : Int)))] ∧ Ext w w' ∧ (Blk w' x [.int .i64 (room), .slice (al) ((rs.map RF.c).length) (cl)] 123) ∧ (OwnSl w' 120 (al) (cl) (rs.map RF.c)) ∧ (BytesAt w' rs) ∧ (i ≤ rs.length)) (fun i => rs.length - i) 0 ?_ ?_
 ·refine ⟨⟨rfl, rfl, rfl, trivial⟩, (Keeps.refl _ w), hb, ho, hy, ?_⟩
  ·omega
 clear hb ho hy; rintro i ρ_3 w_1 ⟨hH_2, K0, hb, ho, hy, hi⟩ ih1; obtain ⟨ρ₀, rfl⟩ := hH_2.ex; clear hH_2; refine Run.seq <| Run.seq <| Run.region <| RL.val (x_moveI rfl) <| RL.val (x_moveP rfl) <| RL.val (x_nilCheck rfl) <| RL.val (x_fld (o' := 1) Tryz.underlying123 rfl ty121 rfl rfl rfl) <| RL.val (x_ld (v := .slice (al) ((rs.map RF.c).length) (cl)) ty121 rfl rfl (hb.cl.field (i := 1) rfl)) ?_; refine RL.val (x_lenSl Tryz.underlying121 rfl) <| RL.val (x_ltI rfl rfl) <| RL.nil ?_; refine Run.cond rfl (fun hc11 => ?_) (fun hc11 => ?_)
 ·try simp only [br] at hc11
  refine Run.skip <| Run.seq <| Run.block <| Run.region <| RL.val (x_moveI rfl) <| RL.val (x_moveP rfl) <| RL.val (x_nilCheck rfl) <| RL.val (x_fld (o' := 1) Tryz.underlying123 rfl ty121 rfl rfl rfl) ?_; refine RL.val (x_ld (v := .slice (al) ((rs.map RF.c).length) (cl)) ty121 rfl rfl (hb.cl.field (i := 1) rfl)) <| RL.val (x_moveI rfl) ?_; obtain ⟨b_4, o_5, y, hx, ha_6, hc_7⟩ := ho.sl.el (i := i) (by first | omega | (simp only [List.length_set]; omega)); refine RL.val (x_idxN Tryz.underlying121 ty120 rfl rfl ha_6 (by first | omega | (simp only [List.length_set]; omega))) ?_; obtain ⟨r, hr, hxr⟩ := rf_get hx; have hn_r : y.name = r.name := by rw [hxr]; rfl
  have e0 := used_take hr; have e1 := usedR_le rs (i + 1); refine RL.val (x_fld (o' := o_5 + i * 3 + 1) Tryz.underlying120 rfl ty32 rfl rfl rfl) <| RL.val (litV (v' := .slice r.a r.bytes.length r.cap) (x_ld ty32 rfl rfl (hc_7.field (i := 1) rfl)) (by rw [hxr]; rfl)) <| RL.val (x_lenSl Tryz.underlying32 rfl) <| RL.val (litI (c := ((usedL ((rs.take (i + 1)).map RF.p) : Nat) : Int)) (litI (c := (((usedL ((rs.take i).map RF.p)) + r.bytes.length : Nat) : Int)) (x_add rfl rfl (by omega) (by omega)) rfl) (by rw [e0])) <| RL.val (x_assignI rfl) <| RL.nil <| Run.inBlock <| Run.region ?_; refine RL.val (x_moveI rfl) <| RL.val (litI (c := ((i + 1 : Nat) : Int)) (x_add rfl rfl (by omega) (by omega)) rfl) <| RL.val (x_assignI rfl) <| RL.nil ?_; refine ih1 (i + 1) _ _ ?_ (by omega); refine ⟨⟨rfl, rfl, rfl, trivial⟩, K0, hb, ho, hy, ?_⟩
  ·omega
 ·try simp only [br] at hc11
  refine Run.exit rfl <| Run.seq <| Run.region <| RL.val (x_moveI rfl) <| RL.val (x_assignI rfl) <| RL.nil <| Run.ret1 (v := .int .i64 (((usedL ((rs.take i).map RF.p) : Nat) : Int))) Tryz.func93 rfl rfl ?_; have hil : i = rs.length := by omega
  rw [hil, List.take_length]; exact ⟨_, rfl, rfl, K0⟩
end Go.Proofs.YtlhepanmdchjoaaGreatDoor

/-
  The reference's disk, second part.
-/
namespace Go.Proofs.YtlhepanmdchjoaaGreatDoor
attribute [local irreducible] St1 RL RA RT RT1 Run
section
variable {w w' : World} {x : Nat} {al al' : Option Addr} {cl cl' : Nat} {room : Int} {rs rs' : List RF} {n : ByteArray}
theorem nm_snoc {i : Nat} {r : RF} {y : FileC} (h : rs[i]? = some r) (e : y.name = r.name) : (rs.take i).map RF.name ++ [y.name] = (rs.take (i + 1)).map RF.name := by rw [take_snoc h, List.map_append, e]; rfl
end
set_option maxRecDepth 100000 in
set_option maxHeartbeats 4000000 in
theorem filesR (x : Nat) (al : Option Addr) (cl : Nat) (room : Int) (rs : List RF) (w : World) (hD : RefM w x al cl room rs) (hl : rs.length ≤ 65) :
  Calls Tryz.prog 64 #[.pointer (some ⟨x, 0, none⟩)] w (Ret (fun v w' => ∃ a c, v = .slice a (rs.map RF.name).length c ∧ OwnSl w' 9 a c (rs.map RF.name) ∧ (∀ q, own a q → w.heap.size ≤ q) ∧ Ext w w')) := by
 obtain ⟨hb, ho, hy, hox, hbx, hbo⟩ := hD; have hml : (rs.map RF.c).length = rs.length := List.length_map ..; refine calls_run (n := 26) Tryz.func64 rfl rfl rfl <| Run.seq <| Run.region <| RL.val (x_assignSl rfl) <| RL.nil <| Run.seq <| Run.region <| RL.val (x_assignSl rfl) ?_; refine RL.nil <| Run.seq <| Run.seq <| Run.region <| RL.val (x_assignI rfl) <| RL.nil <| Run.block ?_; refine Run.loop (ι := Nat) (fun i ρ' w' => ∃ ao : Option Addr, ∃ co : Nat, Holds ρ' [(0, .pointer (some ⟨x, 0, none⟩)), (3, .slice (ao) (((rs.take i).map RF.name).length) (co)), (4, .int .i64 (((i : Nat) : Int)))] ∧ Ext w w' ∧ (Blk w' x [.int .i64 (room), .slice (al) ((rs.map RF.c).length) (cl)] 123) ∧ (OwnSl w' 120 (al) (cl) (rs.map RF.c)) ∧ (BytesAt w' rs) ∧ (OwnSl w' 9 ao co ((rs.take i).map RF.name)) ∧ (¬ own ao x) ∧ (∀ q_, own ao q_ → ¬ own al q_) ∧ (∀ q_, own ao q_ → ¬ bytesS rs q_) ∧ (∀ q_, own ao q_ → w.heap.size ≤ q_) ∧ (i ≤ rs.length)) (fun i => rs.length - i) 0 ?_ ?_
 ·have ho_8 := OwnSl.nil (α := ByteArray) w 9
  refine ⟨_, _, ⟨rfl, rfl, rfl, trivial⟩, (Keeps.refl _ w), hb, ho, hy, ho_8, (own_none x), (fun q_ h1 _ => own_none q_ h1), (fun q_ h1 _ => own_none q_ h1), (fun q_ h1 => absurd h1 (own_none q_)), ?_⟩
  ·omega
 clear hb ho hy; rintro i ρ_9 w_1 ⟨ao, co, hH_2, K0, hb, ho, hy, ho_3, pr_4, pr_5, pr_6, pr_7, hi⟩ ih1; obtain ⟨ρ₀, rfl⟩ := hH_2.ex; clear hH_2; refine Run.seq <| Run.seq <| Run.region <| RL.val (x_moveI rfl) <| RL.val (x_moveP rfl) <| RL.val (x_nilCheck rfl) <| RL.val (x_fld (o' := 1) Tryz.underlying123 rfl ty121 rfl rfl rfl) <| RL.val (x_ld (v := .slice (al) ((rs.map RF.c).length) (cl)) ty121 rfl rfl (hb.cl.field (i := 1) rfl)) ?_; refine RL.val (x_lenSl Tryz.underlying121 rfl) <| RL.val (x_ltI rfl rfl) <| RL.nil ?_; refine Run.cond rfl (fun hc11 => ?_) (fun hc11 => ?_)
 ·try simp only [br] at hc11
  refine Run.skip <| Run.seq <| Run.block <| Run.region <| RL.val (x_moveSl rfl) <| RL.val (x_moveP rfl) <| RL.val (x_nilCheck rfl) <| RL.val (x_fld (o' := 1) Tryz.underlying123 rfl ty121 rfl rfl rfl) ?_; refine RL.val (x_ld (v := .slice (al) ((rs.map RF.c).length) (cl)) ty121 rfl rfl (hb.cl.field (i := 1) rfl)) <| RL.val (x_moveI rfl) ?_; obtain ⟨b_10, o_11, y, hx, ha_12, hc_13⟩ := ho.sl.el (i := i) (by first | omega | (simp only [List.length_set]; omega)); refine RL.val (x_idxN Tryz.underlying121 ty120 rfl rfl ha_12 (by first | omega | (simp only [List.length_set]; omega))) ?_; obtain ⟨r, hr, hxr⟩ := rf_get hx; have hn_r : y.name = r.name := by rw [hxr]; rfl
  refine RL.val (x_fld (o' := o_11 + i * 3 + 0) Tryz.underlying120 rfl ty9 rfl rfl rfl) <| RL.val (x_ld ty9 rfl rfl (hc_13.field (i := 0) rfl)) <| RL.st rfl <| St1.buildSlice ([(y).name] : List ByteArray) Tryz.underlying61 ty9 rfl rfl (by first | decide | (simp [Enc.size])) ?_; intro b_16 w_17 hl_20 ho_19 K_18; clear hl_20; replace hb := hb.ext K_18; replace ho := ho.ext K_18; replace hy := hy.ext K_18; replace ho_3 := ho_3.ext K_18; replace K0 := K0.ext K_18; refine RL.st rfl <| St1.append (xs := (rs.take i).map RF.name) (ys := ([(y).name] : List ByteArray)) Tryz.underlying61 ty9 rfl rfl rfl ho_3 ho_19.sl (by rw [List.length_map, List.length_take]; simp only [lr]; omega) (by decide) ?_; intro a_26 c_27 w_28 ho_29 K_30 hm_31 hrm_32; have pr_33 : ¬ own a_26 x := hm_31.not pr_4 hb.lt; have pr_34 : ∀ q_, own a_26 q_ → ¬ own al q_ := hm_31.apart pr_5 ho.own_lt; have pr_35 : ∀ q_, own a_26 q_ → ¬ bytesS rs q_ := hm_31.apart pr_6 hy.own_lt; have pg_37 : ∀ q_, own a_26 q_ → w.heap.size ≤ q_ := hm_31.ge pr_7 K0.size; replace hb := hb.keep K_30 pr_4; replace ho := ho.keepO K_30 (fun q_ h1 h2 => pr_5 q_ h2 h1); replace hy := hy.keepO K_30 (fun q_ h1 h2 => pr_6 q_ h2 h1); replace K0 := K0.new K_30 pr_7; clear hm_31; clear hrm_32; refine RL.val (x_assignSl rfl) <| RL.nil ?_; rw [nm_snoc hr hn_r] at ho_29 ⊢; refine Run.inBlock <| Run.region <| RL.val (x_moveI rfl) <| RL.val (litI (c := ((i + 1 : Nat) : Int)) (x_add rfl rfl (by omega) (by omega)) rfl) <| RL.val (x_assignI rfl) <| RL.nil ?_; refine ih1 (i + 1) _ _ ?_ (by omega); refine ⟨_, _, ⟨rfl, rfl, rfl, trivial⟩, K0, hb, ho, hy, ho_29, pr_33, pr_34, pr_35, pg_37, ?_⟩
  ·omega
 ·try simp only [br] at hc11
  refine Run.exit rfl <| Run.seq <| Run.region <| RL.val (x_moveSl rfl) <| RL.val (x_assignSl rfl) <| RL.nil <| Run.ret1 (v := .slice (ao) (((rs.take i).map RF.name).length) (co)) Tryz.func64 rfl rfl ?_; have hil : i = rs.length := by omega
  rw [hil, List.take_length] at ho_3 ⊢; exact ⟨_, rfl, ao, co, rfl, ho_3, pr_7, K0⟩
set_option maxRecDepth 100000 in
set_option maxHeartbeats 4000000 in
theorem withoutR (x : Nat) (al : Option Addr) (cl : Nat) (room : Int) (rs : List RF) (name : ByteArray) (w : World) (hD : RefM w x al cl room rs) (hl : rs.length ≤ 65) :
  Calls Tryz.prog 95 #[.pointer (some ⟨x, 0, none⟩), .string (name)] w (Ret (fun v w' => v = .tuple #[] ∧ ∃ al' cl', RefM w' x al' cl' room (keepR name rs rs.length) ∧ (∀ q, own al' q → w.heap.size ≤ q) ∧ Keeps (writeS x al) w w')) := by
 obtain ⟨hb, ho, hy, hox, hbx, hbo⟩ := hD; have hml : (rs.map RF.c).length = rs.length := List.length_map ..; refine calls_run (n := 39) Tryz.func95 rfl rfl rfl <| Run.seq <| Run.region <| RL.val (x_assignSl rfl) <| RL.nil <| Run.seq <| Run.seq <| Run.region ?_; refine RL.val (x_assignI rfl) <| RL.nil <| Run.block ?_; refine Run.loop (ι := Nat) (fun i ρ' w' => ∃ ao : Option Addr, ∃ co : Nat, Holds ρ' [(0, .pointer (some ⟨x, 0, none⟩)), (1, .string (name)), (4, .slice (ao) (((keepR name rs i).map RF.c).length) (co)), (5, .int .i64 (((i : Nat) : Int)))] ∧ Keeps (writeS x al) w w' ∧ (Blk w' x [.int .i64 (room), .slice (al) ((rs.map RF.c).length) (cl)] 123) ∧ (OwnSl w' 120 (al) (cl) (rs.map RF.c)) ∧ (BytesAt w' rs) ∧ (OwnSl w' 120 ao co ((keepR name rs i).map RF.c)) ∧ (¬ own ao x) ∧ (∀ q_, own ao q_ → ¬ own al q_) ∧ (∀ q_, own ao q_ → ¬ bytesS rs q_) ∧ (∀ q_, own ao q_ → q_ < w.heap.size → (writeS x al) q_) ∧ (∀ q_, own ao q_ → w.heap.size ≤ q_) ∧ (i ≤ rs.length)) (fun i => rs.length - i) 0 ?_ ?_
 ·have ho_9 := OwnSl.nil (α := FileC) w 120
  refine ⟨_, _, ⟨rfl, rfl, rfl, rfl, trivial⟩, (Keeps.refl _ w), hb, ho, hy, ho_9, (own_none x), (fun q_ h1 _ => own_none q_ h1), (fun q_ h1 _ => own_none q_ h1), (fun q_ h1 _ => absurd h1 (own_none q_)), (fun q_ h1 => absurd h1 (own_none q_)), ?_⟩
  ·omega
 clear hb ho hy; rintro i ρ_10 w_1 ⟨ao, co, hH_2, K0, hb, ho, hy, ho_3, pr_4, pr_5, pr_6, pr_7, pr_8, hi⟩ ih1; obtain ⟨ρ₀, rfl⟩ := hH_2.ex; clear hH_2; refine Run.seq <| Run.seq <| Run.region <| RL.val (x_moveI rfl) <| RL.val (x_moveP rfl) <| RL.val (x_nilCheck rfl) <| RL.val (x_fld (o' := 1) Tryz.underlying123 rfl ty121 rfl rfl rfl) <| RL.val (x_ld (v := .slice (al) ((rs.map RF.c).length) (cl)) ty121 rfl rfl (hb.cl.field (i := 1) rfl)) ?_; refine RL.val (x_lenSl Tryz.underlying121 rfl) <| RL.val (x_ltI rfl rfl) <| RL.nil ?_; refine Run.cond rfl (fun hc12 => ?_) (fun hc12 => ?_)
 ·try simp only [br] at hc12
  refine Run.skip <| Run.seq <| Run.block <| Run.seq <| Run.region <| RL.val (x_moveP rfl) <| RL.val (x_nilCheck rfl) <| RL.val (x_fld (o' := 1) Tryz.underlying123 rfl ty121 rfl rfl rfl) ?_; refine RL.val (x_ld (v := .slice (al) ((rs.map RF.c).length) (cl)) ty121 rfl rfl (hb.cl.field (i := 1) rfl)) <| RL.val (x_moveI rfl) ?_; obtain ⟨b_11, o_12, y, hx, ha_13, hc_14⟩ := ho.sl.el (i := i) (by first | omega | (simp only [List.length_set]; omega)); refine RL.val (x_idxN Tryz.underlying121 ty120 rfl rfl ha_13 (by first | omega | (simp only [List.length_set]; omega))) <| RL.val (x_fld (o' := o_12 + i * 3 + 0) Tryz.underlying120 rfl ty9 rfl rfl rfl) <| RL.val (x_ld ty9 rfl rfl (hc_14.field (i := 0) rfl)) <| RL.val (x_moveS rfl) <| RL.val (x_neS rfl rfl) <| RL.nil ?_; obtain ⟨r, hr, hxr⟩ := rf_get hx; have hn_r : y.name = r.name := by rw [hxr]; rfl
  refine Run.cond rfl (fun hc24 => ?_) (fun hc24 => ?_)
  ·try simp only [br] at hc24
   refine Run.region <| RL.val (x_moveSl rfl) <| RL.val (x_moveP rfl) <| RL.val (x_nilCheck rfl) <| RL.val (x_fld (o' := 1) Tryz.underlying123 rfl ty121 rfl rfl rfl) <| RL.val (x_ld (v := .slice (al) ((rs.map RF.c).length) (cl)) ty121 rfl rfl (hb.cl.field (i := 1) rfl)) <| RL.val (x_moveI rfl) ?_; obtain ⟨b_17, o_18, y2, hx2, ha_19, hc_20⟩ := ho.sl.el (i := i) (by first | omega | (simp only [List.length_set]; omega)); obtain rfl : y = y2 := Option.some.inj (hx.symm.trans hx2); refine RL.val (x_idxN Tryz.underlying121 ty120 rfl rfl ha_19 (by first | omega | (simp only [List.length_set]; omega))) <| RL.val (x_ldV (v := .agg #[.string ((y).name), .slice ((y).b.a) ((y).b.len) ((y).b.cap), .int .i64 ((y).synced)]) (y := y) ty120 rfl hc_20 rfl) <| RL.st rfl <| St1.buildSlice ([y] : List FileC) Tryz.underlying121 ty120 rfl rfl (by first | decide | (simp [Enc.size])) ?_; intro b_23 w_24 hl_27 ho_26 K_25; clear hl_27; replace hb := hb.ext K_25; replace ho := ho.ext K_25; replace hy := hy.ext K_25; replace ho_3 := ho_3.ext K_25; replace K0 := K0.ext K_25; refine RL.st rfl <| St1.append (xs := (keepR name rs i).map RF.c) (ys := ([y] : List FileC)) Tryz.underlying121 ty120 rfl rfl rfl ho_3 ho_26.sl (by have := keepR_len name rs i; rw [List.length_map]; simp only [lr]; omega) (by decide) ?_; intro a_34 c_35 w_36 ho_37 K_38 hm_39 hrm_40; have pr_41 : ¬ own a_34 x := hm_39.not pr_4 hb.lt; have pr_42 : ∀ q_, own a_34 q_ → ¬ own al q_ := hm_39.apart pr_5 ho.own_lt; have pr_43 : ∀ q_, own a_34 q_ → ¬ bytesS rs q_ := hm_39.apart pr_6 hy.own_lt; have pg_45 : ∀ q_, own a_34 q_ → q_ < w.heap.size → (writeS x al) q_ := hm_39.inS pr_7 K0.size; have pw_46 : ∀ q_, own a_34 q_ → w.heap.size ≤ q_ := hm_39.ge pr_8 K0.size; replace hb := hb.keep K_38 pr_4; replace ho := ho.keepO K_38 (fun q_ h1 h2 => pr_5 q_ h2 h1); replace hy := hy.keepO K_38 (fun q_ h1 h2 => pr_6 q_ h2 h1); replace K0 := K0.trans K_38 (fun x hlt hx => pr_7 x hx hlt); clear hm_39; clear hrm_40; refine RL.val (x_assignSl rfl) <| RL.nil ?_; rw [show [y] = [r.c] from by rw [hxr], keepR_yes hr (fun e_ => hc24 (by rw [hn_r]; exact e_))] at ho_37 ⊢; refine Run.inBlock <| Run.region <| RL.val (x_moveI rfl) <| RL.val (litI (c := ((i + 1 : Nat) : Int)) (x_add rfl rfl (by omega) (by omega)) rfl) <| RL.val (x_assignI rfl) <| RL.nil ?_; refine ih1 (i + 1) _ _ ?_ (by omega); refine ⟨_, _, ⟨rfl, rfl, rfl, rfl, trivial⟩, K0, hb, ho, hy, ho_37, pr_41, pr_42, pr_43, pg_45, pw_46, ?_⟩
   ·omega
  ·try simp only [br] at hc24
   refine Run.skip <| Run.inBlock <| Run.region <| RL.val (x_moveI rfl) <| RL.val (litI (c := ((i + 1 : Nat) : Int)) (x_add rfl rfl (by omega) (by omega)) rfl) <| RL.val (x_assignI rfl) <| RL.nil ?_; have e_ := keepR_no hr (hn_r.symm.trans (by simpa using hc24)); refine ih1 (i + 1) _ _ ?_ (by omega); rw [e_]; refine ⟨_, _, ⟨rfl, rfl, rfl, rfl, trivial⟩, K0, hb, ho, hy, ho_3, pr_4, pr_5, pr_6, pr_7, pr_8, ?_⟩
   ·omega
 ·try simp only [br] at hc12
  refine Run.exit rfl <| Run.region <| RL.val (x_moveP rfl) <| RL.val (x_moveSl rfl) <| RL.val (x_nilCheck rfl) <| RL.val (x_fld (o' := 1) Tryz.underlying123 rfl ty121 rfl rfl rfl) <| RL.st rfl <| St1.store (v := .slice (ao) (((keepR name rs i).map RF.c).length) (co)) ty121 rfl rfl rfl (by simp [Value.cells, Value.oneCell']) hb (by simp) ?_; intro w_47 hb_ K_48; have hb' : Blk w_47 x [.int .i64 (room), .slice (ao) (((keepR name rs i).map RF.c).length) (co)] 123 := hb_; clear hb_; replace ho := ho.keepO K_48 (fun q_ hq_ eq_ => hox (by simp only [one] at eq_; rw [← eq_]; exact hq_)); replace hy := hy.keepO K_48 (fun q_ hq_ eq_ => hbx (by simp only [one] at eq_; rw [← eq_]; exact hq_)); replace ho_3 := ho_3.keepO K_48 (fun q_ hq_ eq_ => pr_4 (by simp only [one] at eq_; rw [← eq_]; exact hq_)); replace K0 := K0.trans K_48 (fun x _ hx => by simp only [one] at hx; subst hx; exact (Or.inl rfl)); replace hb := hb'; clear hb'; refine RL.nil <| Run.fin0 Tryz.func95 rfl ?_; have hil : i = rs.length := by omega
  rw [hil] at hb ho_3; exact ⟨_, rfl, rfl, ao, co, ⟨hb, ho_3, hy.sub (keepR_sub name rs rs.length), pr_4, fun h_ => hbx (bytesS_sub (keepR_sub name rs rs.length) _ h_), fun q_ h1 h2 => (fun q_ h1 h2 => pr_6 q_ h2 h1) q_ (bytesS_sub (keepR_sub name rs rs.length) q_ h1) h2⟩, pr_8, K0⟩
end Go.Proofs.YtlhepanmdchjoaaGreatDoor

/-
  The reference's disk, third part.
-/
namespace Go.Proofs.YtlhepanmdchjoaaGreatDoor
attribute [local irreducible] St1 RL RA RT RT1 Run
section
variable {w w' : World} {x : Nat} {al al' : Option Addr} {cl cl' : Nat} {room : Int} {rs rs' : List RF} {n : ByteArray} {r r0 : RF} {b : List UInt8}
theorem rc_snoc {l : List RF} : l.map RF.c ++ [(⟨r.name, ⟨r.a, r.bytes.length, r.cap⟩, ((r.synced : Nat) : Int)⟩ : FileC)] = (l ++ [r]).map RF.c := by rw [List.map_append]; rfl
theorem rc_snoc' {l : List RF} {y : FileC} (e : y = r.c) : l.map RF.c ++ [y] = (l ++ [r]).map RF.c := by rw [List.map_append, e]; rfl
theorem BytesAt.ins (h : BytesAt w rs) (h0 : BytesAt w [r0]) : BytesAt w (insR r0 rs) := ⟨fun z hz => (List.mem_cons.1 (insR_mem hz)).elim (fun e => h0.all z (by simp [e])) (fun h' => h.all z h')⟩
theorem bytesS_ins : ∀ q, bytesS (insR r0 rs) q → bytesS [r0] q ∨ bytesS rs q := fun q ⟨z, hz, hq⟩ => (List.mem_cons.1 (insR_mem hz)).elim (fun e => .inl ⟨z, by simp [e], hq⟩) (fun h => .inr ⟨z, h, hq⟩)
theorem BytesAt.one (h : BytesAt w rs) {i : Nat} (hr : rs[i]? = some r) (n : ByteArray) (s : Nat) : BytesAt w [⟨n, r.a, r.cap, r.bytes, s⟩] := ⟨fun z hz => by simp only [List.mem_singleton] at hz; subst hz; exact h.all r (List.mem_of_getElem? hr)⟩
theorem bytesS_one {i : Nat} (hr : rs[i]? = some r) (n : ByteArray) (s : Nat) : ∀ q, bytesS [⟨n, r.a, r.cap, r.bytes, s⟩] q → bytesS rs q := fun q ⟨z, hz, hq⟩ => by simp only [List.mem_singleton] at hz; subst hz; exact ⟨r, List.mem_of_getElem? hr, hq⟩
theorem BytesAt.none (w : World) (n : ByteArray) (s : Nat) : BytesAt w [⟨n, none, 0, [], s⟩] := ⟨fun z hz => by simp only [List.mem_singleton] at hz; subst hz; exact ⟨SlOf.nil _ _, fun q h => absurd h (own_none q), Nat.le_refl _⟩⟩
theorem bytesS_none (n : ByteArray) (s : Nat) : ∀ q, ¬ bytesS [⟨n, none, 0, [], s⟩] q := fun q ⟨z, hz, hq⟩ => by simp only [List.mem_singleton] at hz; subst hz; exact own_none q hq
theorem BytesAt.set (h : BytesAt w rs) {a : Option Addr} {c : Nat} {bs : List UInt8} (ho : OwnSl w 5 a c bs) (i : Nat) (n : ByteArray) (s : Nat) : BytesAt w (rs.set i ⟨n, a, c, bs, s⟩) := ⟨fun z hz => (List.mem_or_eq_of_mem_set hz).elim (fun h' => h.all z h') (fun e => by rw [e]; exact ⟨ho.sl, ho.own_lt, ho.le_cap⟩)⟩
theorem bytesS_set {a : Option Addr} {c : Nat} {bs : List UInt8} {i : Nat} {n : ByteArray} {s : Nat} : ∀ q, bytesS (rs.set i ⟨n, a, c, bs, s⟩) q → own a q ∨ bytesS rs q := fun q ⟨z, hz, hq⟩ => (List.mem_or_eq_of_mem_set hz).elim (fun h => .inr ⟨z, h, hq⟩) (fun e => .inl (by rw [e] at hq; exact hq))
theorem set_rc {i : Nat} {y : FileC} {a : Option Addr} {c : Nat} {bs : List UInt8} (e : y = r.c) : (rs.map RF.c).set i (⟨y.name, ⟨a, bs.length, c⟩, y.synced⟩ : FileC) = (rs.set i ⟨r.name, a, c, bs, r.synced⟩).map RF.c := by rw [List.map_set, e]; rfl
theorem set_rs {i : Nat} {y : FileC} {s : Nat} (e : y = r.c) : (rs.map RF.c).set i (⟨y.name, y.b, ((s : Nat) : Int)⟩ : FileC) = (rs.set i ⟨r.name, r.a, r.cap, r.bytes, s⟩).map RF.c := by rw [List.map_set, e]; rfl
theorem upd_set {i : Nat} {r' : RF} {u : PF → PF} (hn : (rs.map (·.name)).Nodup) (hr : rs[i]? = some r) (e : r'.p = u r.p) (hrn : r.name = n) : (rs.set i r').map RF.p = updL (rs.map RF.p) n u := by
 obtain ⟨hi, rfl⟩ := List.getElem?_eq_some_iff.1 hr; apply List.ext_getElem?; intro k; rw [updL, List.map_map, List.getElem?_map, List.getElem?_map, List.getElem?_set]; by_cases hk : i = k
 ·subst hk
  rw [if_pos rfl, if_pos hi, List.getElem?_eq_getElem hi]; simp only [Option.map_some, Function.comp]; rw [if_pos (show (RF.p rs[i]).name = n from hrn), e]
 ·rw [if_neg hk]
  cases hg : rs[k]? with
  | none => rfl
  | some z =>
   simp only [Option.map_some, Function.comp]; rw [if_neg]; intro hz; obtain ⟨hk2, rfl⟩ := List.getElem?_eq_some_iff.1 hg; have := (List.getElem_inj (h₀ := by simpa using hi) (h₁ := by simpa using hk2) hn).1 (show (rs.map (·.name))[i]'(by simpa using hi) = (rs.map (·.name))[k]'(by simpa using hk2) by simp only [List.getElem_map]; rw [hrn]; exact hz.symm); exact hk this
theorem SortedL.upd {l : List PF} {u : PF → PF} (h : SortedL l) (hu : ∀ f, (u f).name = f.name) : SortedL (updL l n u) := by
 rw [SortedL, updL, List.pairwise_map]; refine List.Pairwise.imp (fun {a b} hab => ?_) h; have e : ∀ f : PF, (if f.name = n then u f else f).name = f.name := fun f => by split; exact hu f; rfl
 rw [e, e]; exact hab
theorem RefO.names (h : PLOk room (rs.map RF.p)) : (rs.map (·.name)).Nodup := by have := h.nodup; rwa [rf_names] at this
theorem noRP (h : ∀ r ∈ rs, r.name ≠ n) : ∀ f ∈ rs.map RF.p, f.name ≠ n := fun y hy => by obtain ⟨f, hf, rfl⟩ := List.mem_map.1 hy; exact h f hf
theorem hasR_no (h : ∀ r ∈ rs, r.name ≠ n) : hasL (rs.map RF.p) n = false := hasL_false (noRP h)
theorem hasR_in {i : Nat} (hr : rs[i]? = some r) (hn : r.name = n) : hasL (rs.map RF.p) n = true := hasL_iff.2 ⟨r.p, List.mem_map.2 ⟨r, List.mem_of_getElem? hr, rfl⟩, hn⟩
theorem lookR_in {i : Nat} (hok : PLOk room (rs.map RF.p)) (hr : rs[i]? = some r) (hn : r.name = n) : lookL (rs.map RF.p) n = some r.p := by subst hn; exact lookL_mem (f := r.p) hok.nodup (List.mem_map.2 ⟨r, List.mem_of_getElem? hr, rfl⟩)
theorem badRP (h : PLOk room (rs.map RF.p)) (hm : mayN n = false) : ∀ r ∈ rs, r.name ≠ n := fun f hf e => by
 have := h.may f.p (List.mem_map.2 ⟨f, hf, rfl⟩); rw [show f.p.name = n from e, hm] at this; cases this
theorem lookER_no (hm : mayN n = true) (h : ∀ r ∈ rs, r.name ≠ n) : lookE (rs.map RF.p) n = 20 := by rw [lookE, hm, hasR_no h]; rfl
theorem lookER_in {i : Nat} (hm : mayN n = true) (hr : rs[i]? = some r) (hn : r.name = n) : lookE (rs.map RF.p) n = 0 := by rw [lookE, hm, hasR_in hr hn]; rfl
theorem appR_in {i : Nat} {a : Option Addr} {c : Nat} (he : appE room (rs.map RF.p) n b = 0) (hn : (rs.map (·.name)).Nodup) (hr : rs[i]? = some r) (hrn : r.name = n) : (rs.set i ⟨r.name, a, c, r.bytes ++ b, r.synced⟩).map RF.p = appL room (rs.map RF.p) n b := by
 rw [appL, if_pos he, if_pos (hasR_in hr hrn)]; exact upd_set hn hr rfl hrn
theorem appR_new {i : Nat} {a : Option Addr} {c : Nat} (he : appE room (rs.map RF.p) n b = 0) (hno : ∀ r ∈ rs, r.name ≠ n) (hn : ((insR ⟨n, none, 0, [], 0⟩ rs).map (·.name)).Nodup) (hr : (insR ⟨n, none, 0, [], 0⟩ rs)[i]? = some r) (hrn : r.name = n) :
  (((insR ⟨n, none, 0, [], 0⟩ rs).set i ⟨r.name, a, c, r.bytes ++ b, r.synced⟩).map RF.p).Perm (appL room (rs.map RF.p) n b) := by
 rw [upd_set (u := fun f => { f with bytes := f.bytes ++ b }) hn hr rfl hrn]; refine (updL_perm ((insR_perm _ rs).map RF.p) n _).trans ?_; rw [appL, if_pos he, hasR_no hno]; have := upd_no (u := fun f => { f with bytes := f.bytes ++ b }) (noRP hno); rw [updL] at this ⊢; rw [List.map_append, List.map_append, this]; simp [RF.p]
theorem ins_nodup (hn : (rs.map (·.name)).Nodup) (hno : ∀ r ∈ rs, r.name ≠ r0.name) : ((insR r0 rs).map (·.name)).Nodup := by
 refine ((insR_perm r0 rs).map _).nodup_iff.2 ?_; rw [List.map_append, List.nodup_append]; refine ⟨hn, by simp, ?_⟩; intro y hy z hz; obtain ⟨f, hf, rfl⟩ := List.mem_map.1 hy; simp only [List.map_cons, List.map_nil, List.mem_singleton] at hz; subst hz; exact hno f hf
theorem ins_has : ∃ r ∈ insR r0 rs, r.name = r0.name := ⟨r0, (insR_perm r0 rs).mem_iff.2 (by simp), rfl⟩
end
set_option maxRecDepth 100000 in
set_option maxHeartbeats 4000000 in
theorem putR (x : Nat) (al : Option Addr) (cl : Nat) (room : Int) (rs : List RF) (r0 : RF) (w : World) (hD : RefM w x al cl room rs) (hl : rs.length ≤ 65) (hz : BytesAt w [r0]) (hzb : ¬ bytesS [r0] x) (hzo : ∀ q, bytesS [r0] q → ¬ own al q) :
  Calls Tryz.prog 94 #[.pointer (some ⟨x, 0, none⟩), .agg #[.string (r0.name), .slice (r0.a) (r0.bytes.length) (r0.cap), .int .i64 (((r0.synced : Nat) : Int))]] w (Ret (fun v w' => v = .tuple #[] ∧ ∃ al' cl', RefM w' x al' cl' room (insR r0 rs) ∧ (∀ q, own al' q → w.heap.size ≤ q) ∧ Keeps (writeS x al) w w')) := by
 obtain ⟨hb, ho, hy, hox, hbx, hbo⟩ := hD; have hml : (rs.map RF.c).length = rs.length := List.length_map ..; refine calls_run (n := 55) Tryz.func94 rfl rfl rfl <| Run.seq <| Run.region <| RL.st rfl <| St1.box (v := .agg #[.string (r0.name), .slice (r0.a) (r0.bytes.length) (r0.cap), .int .i64 (((r0.synced : Nat) : Int))]) rfl ?_; intro b_1 w_2 hl_5 hb_4 K_3; replace hb_4 : Blk w_2 b_1 [.string (r0.name), .slice (r0.a) (r0.bytes.length) (r0.cap), .int .i64 (((r0.synced : Nat) : Int))] 120 := hb_4; have ne_6 : x < b_1 := Nat.lt_of_lt_of_le hb.lt hl_5; have : w.heap.size ≤ b_1 := hl_5; clear hl_5; replace hb := hb.ext K_3; replace ho := ho.ext K_3; replace hy := hy.ext K_3; replace hz := hz.ext K_3; have K0 := (K_3 : Ext w _).to (S := (writeS x al)); refine RL.nil <| Run.seq <| Run.region <| RL.val (x_assignSl rfl) <| RL.nil <| Run.seq <| Run.region <| RL.val (x_assignB rfl) ?_; refine RL.nil <| Run.seq <| Run.seq <| Run.region <| RL.val (x_assignI rfl) <| RL.nil <| Run.block ?_; refine Run.loop (ι := Nat) (fun i ρ' w' => ∃ out : List RF, ∃ dn : Bool, ∃ ao : Option Addr, ∃ co : Nat, Holds ρ' [(0, .pointer (some ⟨x, 0, none⟩)), (3, .pointer (some ⟨b_1, 0, none⟩)), (4, .slice (ao) ((out.map RF.c).length) (co)), (5, .bool (dn)), (6, .int .i64 (((i : Nat) : Int)))] ∧ Keeps (writeS x al) w w' ∧ (Blk w' x [.int .i64 (room), .slice (al) ((rs.map RF.c).length) (cl)] 123) ∧ (Blk w' b_1 [.string (r0.name), .slice (r0.a) (r0.bytes.length) (r0.cap), .int .i64 (((r0.synced : Nat) : Int))] 120) ∧ (OwnSl w' 120 (al) (cl) (rs.map RF.c)) ∧ (BytesAt w' rs) ∧ (BytesAt w' [r0]) ∧ (OwnSl w' 120 ao co (out.map RF.c)) ∧ (¬ own ao x) ∧ (¬ own ao b_1) ∧ (∀ q_, own ao q_ → ¬ own al q_) ∧ (∀ q_, own ao q_ → ¬ bytesS rs q_) ∧ (∀ q_, own ao q_ → ¬ bytesS [r0] q_) ∧ (∀ q_, own ao q_ → q_ < w.heap.size → (writeS x al) q_) ∧ (∀ q_, own ao q_ → w.heap.size ≤ q_) ∧ (i ≤ rs.length) ∧ (InsI r0 rs i out dn)) (fun i => rs.length - i) 0 ?_ ?_
 ·have ho_20 := OwnSl.nil (α := FileC) w_2 120
  refine ⟨[], false, _, _, ⟨rfl, rfl, rfl, rfl, rfl, trivial⟩, K0, hb, hb_4, ho, hy, hz, ho_20, (own_none x), (own_none b_1), (fun q_ h1 _ => own_none q_ h1), (fun q_ h1 _ => own_none q_ h1), (fun q_ h1 _ => own_none q_ h1), (fun q_ h1 _ => absurd h1 (own_none q_)), (fun q_ h1 => absurd h1 (own_none q_)), ?_, ?_⟩
  ·omega
  ·exact InsI.zero _ _
 clear hb ho hy hz hb_4; clear K0; rintro i ρ_21 w_10 ⟨out, dn, ao, co, hH_11, K0, hb, hb_4, ho, hy, hz, ho_12, pr_13, pr_14, pr_15, pr_16, pr_17, pr_18, pr_19, hi, hins⟩ ih1; obtain ⟨ρ₀, rfl⟩ := hH_11.ex; clear hH_11; refine Run.seq <| Run.seq <| Run.region <| RL.val (x_moveI rfl) <| RL.val (x_moveP rfl) <| RL.val (x_nilCheck rfl) <| RL.val (x_fld (o' := 1) Tryz.underlying123 rfl ty121 rfl rfl rfl) <| RL.val (x_ld (v := .slice (al) ((rs.map RF.c).length) (cl)) ty121 rfl rfl (hb.cl.field (i := 1) rfl)) ?_; refine RL.val (x_lenSl Tryz.underlying121 rfl) <| RL.val (x_ltI rfl rfl) <| RL.nil ?_; refine Run.cond rfl (fun hc13 => ?_) (fun hc13 => ?_)
 ·try simp only [br] at hc13
  refine Run.skip <| Run.seq <| Run.block <| Run.seq <| Run.seq ?_; obtain ⟨b_22, o_23, y, hx, ha_24, hc_25⟩ := ho.sl.el (i := i) (by omega); obtain ⟨r, hr, hxr⟩ := rf_get hx; have hn_r : y.name = r.name := by rw [hxr]; rfl
  refine Run.draw' (m := 15) (by kernel_rfl) rfl ?_; intro w_28 K_29; replace hb := hb.ext K_29; replace hb_4 := hb_4.ext K_29; replace ho := ho.ext K_29; replace hy := hy.ext K_29; replace hz := hz.ext K_29; replace ho_12 := ho_12.ext K_29; replace hc_25 := hc_25.ext K_29; replace K0 := K0.ext K_29; refine RA.take (v := .bool (dn)) 0 rfl (by kernel_rfl) rfl (by rintro _ rfl; exact (x_moveB rfl)) <| RA.take (v := .bool (!dn)) 1 rfl (by kernel_rfl) rfl (by rintro _ rfl; exact (x_not rfl)) <| RA.take (v := .bool (!dn)) 2 rfl (by kernel_rfl) rfl (by rintro _ rfl; exact (x_moveB rfl)) <| RA.gtake (v := .pointer (some ⟨b_1, 0, none⟩)) 3 rfl (by kernel_rfl) rfl (wantedT rfl rfl rfl rfl) (fun hg => by rintro _ rfl; exact (x_fld (o' := 0) Tryz.underlying120 rfl ty9 rfl rfl rfl)) <| RA.gtake (v := .string (r0.name)) 4 rfl (by kernel_rfl) rfl (wantedT rfl rfl rfl rfl) (fun hg => by rintro _ rfl; exact (x_ld (v := .string (r0.name)) ty9 (gvr hg) rfl (hb_4.cl.field (i := 0) rfl))) <| RA.gtake (v := .pointer (some ⟨x, 0, none⟩)) 5 rfl (by kernel_rfl) rfl (wantedT rfl rfl rfl rfl) (fun hg => by rintro _ rfl; exact (x_moveP rfl)) <| RA.gtake (v := .pointer (some ⟨x, 0, none⟩)) 6 rfl (by kernel_rfl) rfl (wantedT rfl rfl rfl rfl) (fun hg => by rintro _ rfl; exact (x_nilCheck (gvr hg))) <| RA.gtake (v := .pointer (some ⟨x, 1, none⟩)) 7 rfl (by kernel_rfl) rfl (wantedT rfl rfl rfl rfl) (fun hg => by rintro _ rfl; exact (x_fld (o' := 1) Tryz.underlying123 rfl ty121 rfl (gvr hg) rfl)) ?_; refine RA.gtake (v := .slice (al) ((rs.map RF.c).length) (cl)) 8 rfl (by kernel_rfl) rfl (wantedT rfl rfl rfl rfl) (fun hg => by rintro _ rfl; exact (x_ld (v := .slice (al) ((rs.map RF.c).length) (cl)) ty121 (gvr hg) rfl (hb.cl.field (i := 1) rfl))) <| RA.gtake (v := .int .i64 (((i : Nat) : Int))) 9 rfl (by kernel_rfl) rfl (wantedT rfl rfl rfl rfl) (fun hg => by rintro _ rfl; exact (x_moveI rfl)) <| RA.gtake (v := .pointer (some ⟨b_22, o_23 + i * 3, none⟩)) 10 rfl (by kernel_rfl) rfl (wantedT rfl rfl rfl rfl) (fun hg => by rintro _ rfl; exact (x_idxN Tryz.underlying121 ty120 (gvr hg) (gvr hg) ha_24 (by first | omega | (simp only [List.length_set]; omega)))) <| RA.gtake (v := .pointer (some ⟨b_22, o_23 + i * 3 + 0, none⟩)) 11 rfl (by kernel_rfl) rfl (wantedT rfl rfl rfl rfl) (fun hg => by rintro _ rfl; exact (x_fld (o' := o_23 + i * 3 + 0) Tryz.underlying120 rfl ty9 rfl (gvr hg) rfl)) <| RA.gtake (v := .string ((y).name)) 12 rfl (by kernel_rfl) rfl (wantedT rfl rfl rfl rfl) (fun hg => by rintro _ rfl; exact (x_ld ty9 (gvr hg) rfl (hc_25.field (i := 0) rfl))) <| RA.gtake (v := .bool (decide (r0.name.data.toList < ((y).name).data.toList))) 13 rfl (by kernel_rfl) rfl (wantedT rfl rfl rfl rfl) (fun hg => by rintro _ rfl; exact (x_ltS (gvr hg) (gvr hg))) <| RA.take (v := .bool ((!dn) && (decide (r0.name.data.toList < ((y).name).data.toList)))) 14 rfl (by kernel_rfl) rfl (by rintro _ rfl; exact (x_and rfl rfl rfl)) <| RA.done (by kernel_rfl) ?_; refine Run.cond rfl (fun hc30 => ?_) (fun hc30 => ?_)
  ·try simp only [br] at hc30
   have hins' := hins.in hr hc30.1 (by rw [← hn_r]; exact hc30.2); refine Run.seq <| Run.region <| RL.val (x_moveSl rfl) <| RL.val (x_lds (cs := #[.string (r0.name), .slice (r0.a) (r0.bytes.length) (r0.cap), .int .i64 (((r0.synced : Nat) : Int))]) ty120 rfl rfl (hb_4.cl.drop 0 3)) <| RL.st rfl <| St1.buildSlice ([(⟨r0.name, ⟨r0.a, r0.bytes.length, r0.cap⟩, ((r0.synced : Nat) : Int)⟩ : FileC)] : List FileC) Tryz.underlying121 ty120 rfl rfl (by first | decide | (simp [Enc.size])) ?_; intro b_30 w_31 hl_34 ho_33 K_32; clear hl_34; replace hb := hb.ext K_32; replace hb_4 := hb_4.ext K_32; replace ho := ho.ext K_32; replace hy := hy.ext K_32; replace hz := hz.ext K_32; replace ho_12 := ho_12.ext K_32; replace K0 := K0.ext K_32; refine RL.st rfl <| St1.append (xs := out.map RF.c) (ys := ([(⟨r0.name, ⟨r0.a, r0.bytes.length, r0.cap⟩, ((r0.synced : Nat) : Int)⟩ : FileC)] : List FileC)) Tryz.underlying121 ty120 rfl rfl rfl ho_12 ho_33.sl (by have := hins.len; rw [List.length_map]; simp only [lr]; omega) (by decide) ?_; intro a_43 c_44 w_45 ho_46 K_47 hm_48 hrm_49; have pr_50 : ¬ own a_43 x := hm_48.not pr_13 hb.lt; have pr_51 : ¬ own a_43 b_1 := hm_48.not pr_14 hb_4.lt; have pr_52 : ∀ q_, own a_43 q_ → ¬ own al q_ := hm_48.apart pr_15 ho.own_lt; have pr_53 : ∀ q_, own a_43 q_ → ¬ bytesS rs q_ := hm_48.apart pr_16 hy.own_lt; have pr_54 : ∀ q_, own a_43 q_ → ¬ bytesS [r0] q_ := hm_48.apart pr_17 hz.own_lt; have pg_56 : ∀ q_, own a_43 q_ → q_ < w.heap.size → (writeS x al) q_ := hm_48.inS pr_18 K0.size; have pw_57 : ∀ q_, own a_43 q_ → w.heap.size ≤ q_ := hm_48.ge pr_19 K0.size; replace hb := hb.keep K_47 pr_13; replace hb_4 := hb_4.keep K_47 pr_14; replace ho := ho.keepO K_47 (fun q_ h1 h2 => pr_15 q_ h2 h1); replace hy := hy.keepO K_47 (fun q_ h1 h2 => pr_16 q_ h2 h1); replace hz := hz.keepO K_47 (fun q_ h1 h2 => pr_17 q_ h2 h1); replace K0 := K0.trans K_47 (fun x hlt hx => pr_18 x hx hlt); clear hm_48; clear hrm_49; refine RL.val (x_assignSl rfl) <| RL.nil ?_; rw [rc_snoc] at ho_46 ⊢; refine Run.region <| RL.val (x_assignB rfl) <| RL.nil <| Run.region <| RL.val (x_moveSl rfl) <| RL.val (x_moveP rfl) <| RL.val (x_nilCheck rfl) <| RL.val (x_fld (o' := 1) Tryz.underlying123 rfl ty121 rfl rfl rfl) ?_; refine RL.val (x_ld (v := .slice (al) ((rs.map RF.c).length) (cl)) ty121 rfl rfl (hb.cl.field (i := 1) rfl)) <| RL.val (x_moveI rfl) ?_; obtain ⟨b_58, o_59, y2, hx2, ha_60, hc_61⟩ := ho.sl.el (i := i) (by first | omega | (simp only [List.length_set]; omega)); obtain rfl : y = y2 := Option.some.inj (hx.symm.trans hx2); refine RL.val (x_idxN Tryz.underlying121 ty120 rfl rfl ha_60 (by first | omega | (simp only [List.length_set]; omega))) <| RL.val (x_ldV (v := .agg #[.string ((y).name), .slice ((y).b.a) ((y).b.len) ((y).b.cap), .int .i64 ((y).synced)]) (y := y) ty120 rfl hc_61 rfl) <| RL.st rfl <| St1.buildSlice ([y] : List FileC) Tryz.underlying121 ty120 rfl rfl (by first | decide | (simp [Enc.size])) ?_; intro b_64 w_65 hl_68 ho_67 K_66; clear hl_68; replace hb := hb.ext K_66; replace hb_4 := hb_4.ext K_66; replace ho := ho.ext K_66; replace hy := hy.ext K_66; replace hz := hz.ext K_66; replace ho_46 := ho_46.ext K_66; replace K0 := K0.ext K_66; refine RL.st rfl <| St1.append (xs := (out ++ [r0]).map RF.c) (ys := ([y] : List FileC)) Tryz.underlying121 ty120 rfl rfl rfl ho_46 ho_67.sl (by have := hins.len; rw [List.length_map]; simp only [lr]; omega) (by decide) ?_; intro a_78 c_79 w_80 ho_81 K_82 hm_83 hrm_84; have pr_85 : ¬ own a_78 x := hm_83.not pr_50 hb.lt; have pr_86 : ¬ own a_78 b_1 := hm_83.not pr_51 hb_4.lt; have pr_87 : ∀ q_, own a_78 q_ → ¬ own al q_ := hm_83.apart pr_52 ho.own_lt; have pr_88 : ∀ q_, own a_78 q_ → ¬ bytesS rs q_ := hm_83.apart pr_53 hy.own_lt; have pr_89 : ∀ q_, own a_78 q_ → ¬ bytesS [r0] q_ := hm_83.apart pr_54 hz.own_lt; have pg_92 : ∀ q_, own a_78 q_ → q_ < w.heap.size → (writeS x al) q_ := hm_83.inS pg_56 K0.size; have pw_93 : ∀ q_, own a_78 q_ → w.heap.size ≤ q_ := hm_83.ge pw_57 K0.size; replace hb := hb.keep K_82 pr_50; replace hb_4 := hb_4.keep K_82 pr_51; replace ho := ho.keepO K_82 (fun q_ h1 h2 => pr_52 q_ h2 h1)
   replace hy := hy.keepO K_82 (fun q_ h1 h2 => pr_53 q_ h2 h1); replace hz := hz.keepO K_82 (fun q_ h1 h2 => pr_54 q_ h2 h1); replace K0 := K0.trans K_82 (fun x hlt hx => pg_56 x hx hlt); clear hm_83; clear hrm_84; refine RL.val (x_assignSl rfl) <| RL.nil ?_; rw [rc_snoc' hxr] at ho_81 ⊢; refine Run.inBlock <| Run.region <| RL.val (x_moveI rfl) <| RL.val (litI (c := ((i + 1 : Nat) : Int)) (x_add rfl rfl (by omega) (by omega)) rfl) <| RL.val (x_assignI rfl) <| RL.nil ?_; refine ih1 (i + 1) _ _ ?_ (by omega); refine ⟨out ++ [r0] ++ [r], true, _, _, ⟨rfl, rfl, rfl, rfl, rfl, trivial⟩, K0, hb, hb_4, ho, hy, hz, ho_81, pr_85, pr_86, pr_87, pr_88, pr_89, pg_92, pw_93, ?_, ?_⟩
   ·omega
   ·exact hins'
  ·try simp only [br] at hc30
   have hins' := hins.on hr (by rw [← hn_r]; exact hc30); refine Run.skip <| Run.region <| RL.val (x_moveSl rfl) <| RL.val (x_moveP rfl) <| RL.val (x_nilCheck rfl) <| RL.val (x_fld (o' := 1) Tryz.underlying123 rfl ty121 rfl rfl rfl) <| RL.val (x_ld (v := .slice (al) ((rs.map RF.c).length) (cl)) ty121 rfl rfl (hb.cl.field (i := 1) rfl)) <| RL.val (x_moveI rfl) ?_; obtain ⟨b_94, o_95, y2, hx2, ha_96, hc_97⟩ := ho.sl.el (i := i) (by first | omega | (simp only [List.length_set]; omega)); obtain rfl : y = y2 := Option.some.inj (hx.symm.trans hx2); refine RL.val (x_idxN Tryz.underlying121 ty120 rfl rfl ha_96 (by first | omega | (simp only [List.length_set]; omega))) <| RL.val (x_ldV (v := .agg #[.string ((y).name), .slice ((y).b.a) ((y).b.len) ((y).b.cap), .int .i64 ((y).synced)]) (y := y) ty120 rfl hc_97 rfl) <| RL.st rfl <| St1.buildSlice ([y] : List FileC) Tryz.underlying121 ty120 rfl rfl (by first | decide | (simp [Enc.size])) ?_; intro b_100 w_101 hl_104 ho_103 K_102; clear hl_104; replace hb := hb.ext K_102; replace hb_4 := hb_4.ext K_102; replace ho := ho.ext K_102; replace hy := hy.ext K_102; replace hz := hz.ext K_102; replace ho_12 := ho_12.ext K_102; replace K0 := K0.ext K_102; refine RL.st rfl <| St1.append (xs := out.map RF.c) (ys := ([y] : List FileC)) Tryz.underlying121 ty120 rfl rfl rfl ho_12 ho_103.sl (by have := hins.len; rw [List.length_map]; simp only [lr]; omega) (by decide) ?_; intro a_113 c_114 w_115 ho_116 K_117 hm_118 hrm_119; have pr_120 : ¬ own a_113 x := hm_118.not pr_13 hb.lt; have pr_121 : ¬ own a_113 b_1 := hm_118.not pr_14 hb_4.lt; have pr_122 : ∀ q_, own a_113 q_ → ¬ own al q_ := hm_118.apart pr_15 ho.own_lt; have pr_123 : ∀ q_, own a_113 q_ → ¬ bytesS rs q_ := hm_118.apart pr_16 hy.own_lt; have pr_124 : ∀ q_, own a_113 q_ → ¬ bytesS [r0] q_ := hm_118.apart pr_17 hz.own_lt; have pg_126 : ∀ q_, own a_113 q_ → q_ < w.heap.size → (writeS x al) q_ := hm_118.inS pr_18 K0.size; have pw_127 : ∀ q_, own a_113 q_ → w.heap.size ≤ q_ := hm_118.ge pr_19 K0.size; replace hb := hb.keep K_117 pr_13; replace hb_4 := hb_4.keep K_117 pr_14; replace ho := ho.keepO K_117 (fun q_ h1 h2 => pr_15 q_ h2 h1); replace hy := hy.keepO K_117 (fun q_ h1 h2 => pr_16 q_ h2 h1); replace hz := hz.keepO K_117 (fun q_ h1 h2 => pr_17 q_ h2 h1); replace K0 := K0.trans K_117 (fun x hlt hx => pr_18 x hx hlt); clear hm_118; clear hrm_119; refine RL.val (x_assignSl rfl) <| RL.nil ?_; rw [rc_snoc' hxr] at ho_116 ⊢; refine Run.inBlock <| Run.region <| RL.val (x_moveI rfl) <| RL.val (litI (c := ((i + 1 : Nat) : Int)) (x_add rfl rfl (by omega) (by omega)) rfl) <| RL.val (x_assignI rfl) <| RL.nil ?_; refine ih1 (i + 1) _ _ ?_ (by omega); refine ⟨out ++ [r], dn, _, _, ⟨rfl, rfl, rfl, rfl, rfl, trivial⟩, K0, hb, hb_4, ho, hy, hz, ho_116, pr_120, pr_121, pr_122, pr_123, pr_124, pg_126, pw_127, ?_, ?_⟩
   ·omega
   ·exact hins'
 ·try simp only [br] at hc13
  refine Run.exit rfl <| Run.seq <| Run.seq <| Run.region <| RL.val (x_moveB rfl) <| RL.val (x_not rfl) <| RL.nil ?_; refine Run.cond rfl (fun hc46 => ?_) (fun hc46 => ?_)
  ·try simp only [br] at hc46
   have hil : i = rs.length := by omega
   rw [hil, hc46] at hins; have hie := hins.end0; refine Run.region <| RL.val (x_moveSl rfl) <| RL.val (x_lds (cs := #[.string (r0.name), .slice (r0.a) (r0.bytes.length) (r0.cap), .int .i64 (((r0.synced : Nat) : Int))]) ty120 rfl rfl (hb_4.cl.drop 0 3)) <| RL.st rfl <| St1.buildSlice ([(⟨r0.name, ⟨r0.a, r0.bytes.length, r0.cap⟩, ((r0.synced : Nat) : Int)⟩ : FileC)] : List FileC) Tryz.underlying121 ty120 rfl rfl (by first | decide | (simp [Enc.size])) ?_; intro b_128 w_129 hl_132 ho_131 K_130; clear hl_132; replace hb := hb.ext K_130; replace ho := ho.ext K_130; replace hy := hy.ext K_130; replace hz := hz.ext K_130; replace ho_12 := ho_12.ext K_130; replace K0 := K0.ext K_130; refine RL.st rfl <| St1.append (xs := out.map RF.c) (ys := ([(⟨r0.name, ⟨r0.a, r0.bytes.length, r0.cap⟩, ((r0.synced : Nat) : Int)⟩ : FileC)] : List FileC)) Tryz.underlying121 ty120 rfl rfl rfl ho_12 ho_131.sl (by have := hins.len; rw [List.length_map]; simp only [lr]; omega) (by decide) ?_; intro a_141 c_142 w_143 ho_144 K_145 hm_146 hrm_147; have pr_148 : ¬ own a_141 x := hm_146.not pr_13 hb.lt; have pr_151 : ∀ q_, own a_141 q_ → ¬ bytesS rs q_ := hm_146.apart pr_16 hy.own_lt; have pr_152 : ∀ q_, own a_141 q_ → ¬ bytesS [r0] q_ := hm_146.apart pr_17 hz.own_lt; have pw_155 : ∀ q_, own a_141 q_ → w.heap.size ≤ q_ := hm_146.ge pr_19 K0.size; replace hb := hb.keep K_145 pr_13; replace ho := ho.keepO K_145 (fun q_ h1 h2 => pr_15 q_ h2 h1); replace hy := hy.keepO K_145 (fun q_ h1 h2 => pr_16 q_ h2 h1); replace hz := hz.keepO K_145 (fun q_ h1 h2 => pr_17 q_ h2 h1); replace K0 := K0.trans K_145 (fun x hlt hx => pr_18 x hx hlt); clear hm_146; clear hrm_147; refine RL.val (x_assignSl rfl) <| RL.nil ?_; rw [rc_snoc, hie] at ho_144 ⊢; refine Run.region <| RL.val (x_moveP rfl) <| RL.val (x_moveSl rfl) <| RL.val (x_nilCheck rfl) <| RL.val (x_fld (o' := 1) Tryz.underlying123 rfl ty121 rfl rfl rfl) <| RL.st rfl <| St1.store (v := .slice (a_141) (((insR r0 rs).map RF.c).length) (c_142)) ty121 rfl rfl rfl (by simp [Value.cells, Value.oneCell']) hb (by simp) ?_; intro w_156 hb_ K_157; have hb' : Blk w_156 x [.int .i64 (room), .slice (a_141) (((insR r0 rs).map RF.c).length) (c_142)] 123 := hb_; clear hb_; replace ho := ho.keepO K_157 (fun q_ hq_ eq_ => hox (by simp only [one] at eq_; rw [← eq_]; exact hq_)); replace hy := hy.keepO K_157 (fun q_ hq_ eq_ => hbx (by simp only [one] at eq_; rw [← eq_]; exact hq_)); replace hz := hz.keepO K_157 (fun q_ hq_ eq_ => hzb (by simp only [one] at eq_; rw [← eq_]; exact hq_)); replace ho_144 := ho_144.keepO K_157 (fun q_ hq_ eq_ => pr_148 (by simp only [one] at eq_; rw [← eq_]; exact hq_)); replace K0 := K0.trans K_157 (fun x _ hx => by simp only [one] at hx; subst hx; exact (Or.inl rfl)); replace hb := hb'; clear hb'; refine RL.nil <| Run.fin0 Tryz.func94 rfl ?_; exact ⟨_, rfl, rfl, a_141, c_142, ⟨hb, ho_144, hy.ins hz, pr_148, fun h_ => (bytesS_ins _ h_).elim hzb hbx, fun q_ h1 h2 => (bytesS_ins q_ h1).elim (fun h_ => (fun q_ h1 h2 => pr_152 q_ h2 h1) q_ h_ h2) (fun h_ => (fun q_ h1 h2 => pr_151 q_ h2 h1) q_ h_ h2)⟩, pw_155, K0⟩
  ·try simp only [br] at hc46
   have hil : i = rs.length := by omega
   rw [hil, hc46] at hins; have hie := hins.end1; refine Run.skip ?_; rw [hie] at ho_12 ⊢; refine Run.region <| RL.val (x_moveP rfl) <| RL.val (x_moveSl rfl) <| RL.val (x_nilCheck rfl) <| RL.val (x_fld (o' := 1) Tryz.underlying123 rfl ty121 rfl rfl rfl) <| RL.st rfl <| St1.store (v := .slice (ao) (((insR r0 rs).map RF.c).length) (co)) ty121 rfl rfl rfl (by simp [Value.cells, Value.oneCell']) hb (by simp) ?_; intro w_158 hb_ K_159; have hb' : Blk w_158 x [.int .i64 (room), .slice (ao) (((insR r0 rs).map RF.c).length) (co)] 123 := hb_; clear hb_; replace ho := ho.keepO K_159 (fun q_ hq_ eq_ => hox (by simp only [one] at eq_; rw [← eq_]; exact hq_)); replace hy := hy.keepO K_159 (fun q_ hq_ eq_ => hbx (by simp only [one] at eq_; rw [← eq_]; exact hq_)); replace hz := hz.keepO K_159 (fun q_ hq_ eq_ => hzb (by simp only [one] at eq_; rw [← eq_]; exact hq_)); replace ho_12 := ho_12.keepO K_159 (fun q_ hq_ eq_ => pr_13 (by simp only [one] at eq_; rw [← eq_]; exact hq_)); replace K0 := K0.trans K_159 (fun x _ hx => by simp only [one] at hx; subst hx; exact (Or.inl rfl)); replace hb := hb'; clear hb'; refine RL.nil <| Run.fin0 Tryz.func94 rfl ?_; exact ⟨_, rfl, rfl, ao, co, ⟨hb, ho_12, hy.ins hz, pr_13, fun h_ => (bytesS_ins _ h_).elim hzb hbx, fun q_ h1 h2 => (bytesS_ins q_ h1).elim (fun h_ => (fun q_ h1 h2 => pr_17 q_ h2 h1) q_ h_ h2) (fun h_ => (fun q_ h1 h2 => pr_16 q_ h2 h1) q_ h_ h2)⟩, pr_19, K0⟩
end Go.Proofs.YtlhepanmdchjoaaGreatDoor
