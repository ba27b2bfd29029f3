/-
  The reference's disk, first part.
-/
import Derived.Test.YtambibdkanpmaaaRows
import Derived.Test.YtambibdkanpmaaaDl
namespace Go.Proofs.Ytambibdkanpmaaa
attribute [local irreducible] St1 RL RA RT RT1 Run

/-! ### the reference's disk in memory -/
structure FileC where
  name : ByteArray
  b : SH
  synced : Int
instance : Enc FileC := Enc.struct (fun t => [.string t.name, .slice t.b.a t.b.len t.b.cap, .int .i64 t.synced]) 3 (fun _ => rfl) (fun _ v hv => by simp at hv; rcases hv with rfl | rfl | rfl <;> rfl) (by decide)
structure RF where
  name : ByteArray
  a : Option Addr
  cap : Nat
  bytes : List UInt8
  synced : Nat
def RF.p (r : RF) : PF := ⟨r.name, r.bytes, r.synced⟩
def RF.c (r : RF) : FileC := ⟨r.name, ⟨r.a, r.bytes.length, r.cap⟩, (r.synced : Int)⟩
def bytesS (rs : List RF) : Nat → Prop := fun q => ∃ r ∈ rs, own r.a q
structure BytesAt (w : World) (rs : List RF) : Prop where
  all : ∀ r ∈ rs, SlOf w r.a r.bytes ∧ (∀ q, own r.a q → q < w.heap.size) ∧ r.bytes.length ≤ r.cap
def writeS (x : Nat) (al : Option Addr) : Nat → Prop := fun q => q = x ∨ own al q
def refS (x : Nat) (al : Option Addr) (rs : List RF) : Nat → Prop := fun q => writeS x al q ∨ bytesS rs q
structure RefM (w : World) (x : Nat) (al : Option Addr) (cl : Nat) (room : Int) (rs : List RF) : Prop where
  blk : Blk w x [.int .i64 room, .slice al (rs.map RF.c).length cl] 89
  own : OwnSl w 93 al cl (rs.map RF.c)
  bytes : BytesAt w rs
  ox : ¬ Go.Proofs.Ytambibdkanpmaaa.own al x
  bx : ¬ bytesS rs x
  bo : ∀ q, bytesS rs q → ¬ Go.Proofs.Ytambibdkanpmaaa.own al q
def SortedL (l : List PF) : Prop := l.Pairwise (fun f g => f.name.data.toList < g.name.data.toList)
structure RefO (w : World) (x : Nat) (al : Option Addr) (cl : Nat) (room : Int) (rs : List RF) : Prop where
  mem : RefM w x al cl room rs
  ok : PLOk room (rs.map RF.p)
  sorted : SortedL (rs.map RF.p)
/-- the reference's disk: its blocks, its room, its files in whatever order -/
def RefAt (w : World) (x : Nat) (F : Nat → Prop) (room : Int) (pl : List PF) : Prop := ∃ al cl rs, F = refS x al rs ∧ (rs.map RF.p).Perm pl ∧ RefO w x al cl room rs
section
variable {w w' : World} {S F : Nat → Prop} {x : Nat} {al : Option Addr} {cl : Nat} {room : Int} {rs : List RF} {pl : List PF}
theorem BytesAt.own_lt (h : BytesAt w rs) : ∀ q, bytesS rs q → q < w.heap.size := fun q ⟨r, hr, hq⟩ => (h.all r hr).2.1 q hq
theorem BytesAt.keepO (h : BytesAt w rs) (k : Keeps S w w') (hn : ∀ q, bytesS rs q → ¬ S q) : BytesAt w' rs :=
  ⟨fun r hr => ⟨(h.all r hr).1.keep k (fun x hx => hn _ ⟨r, hr, x, hx, rfl⟩), fun q hq => Nat.lt_of_lt_of_le ((h.all r hr).2.1 q hq) k.size, (h.all r hr).2.2⟩⟩
theorem BytesAt.ext (h : BytesAt w rs) (k : Ext w w') : BytesAt w' rs := h.keepO k fun _ _ => id
theorem BytesAt.nil (w : World) : BytesAt w [] := ⟨fun _ h => absurd h (by simp)⟩
theorem BytesAt.sub (h : BytesAt w rs) {l : List RF} (hs : ∀ r ∈ l, r ∈ rs) : BytesAt w l := ⟨fun r hr => h.all r (hs r hr)⟩
theorem bytesS_sub {l : List RF} (hs : ∀ r ∈ l, r ∈ rs) : ∀ q, bytesS l q → bytesS rs q := fun q ⟨r, hr, hq⟩ => ⟨r, hs r hr, hq⟩
theorem RefM.own_lt (h : RefM w x al cl room rs) : ∀ q, refS x al rs q → q < w.heap.size := by
  rintro q ((rfl | hq) | hq)
  · exact h.blk.lt
  · exact h.own.own_lt q hq
  · exact h.bytes.own_lt q hq
theorem RefM.keepO (h : RefM w x al cl room rs) (k : Keeps S w w') (hn : ∀ q, refS x al rs q → ¬ S q) : RefM w' x al cl room rs :=
  ⟨h.blk.keep k (hn _ (.inl (.inl rfl))), h.own.keepO k (fun q hq => hn q (.inl (.inr hq))), h.bytes.keepO k (fun q hq => hn q (.inr hq)), h.ox, h.bx, h.bo⟩
theorem RefAt.own_lt (h : RefAt w x F room pl) : ∀ q, F q → q < w.heap.size := by obtain ⟨al, cl, rs, rfl, _, h⟩ := h; exact h.mem.own_lt
theorem RefAt.keepO (h : RefAt w x F room pl) (k : Keeps S w w') (hn : ∀ q, F q → ¬ S q) : RefAt w' x F room pl := by obtain ⟨al, cl, rs, rfl, hp, h⟩ := h; exact ⟨al, cl, rs, rfl, hp, h.mem.keepO k hn, h.ok, h.sorted⟩
theorem RefAt.ext (h : RefAt w x F room pl) (k : Ext w w') : RefAt w' x F room pl := h.keepO k fun _ _ => id
theorem RefAt.ok (h : RefAt w x F room pl) : PLOk room pl := by obtain ⟨al, cl, rs, rfl, hp, h⟩ := h; exact h.ok.perm hp
theorem rf_get {i : Nat} {c : FileC} (h : (rs.map RF.c)[i]? = some c) : ∃ r, rs[i]? = some r ∧ c = r.c := by
  rw [List.getElem?_map, Option.map_eq_some_iff] at h
  obtain ⟨r, hr, e⟩ := h
  exact ⟨r, hr, e.symm⟩
theorem rf_names (rs : List RF) : (rs.map RF.p).map (·.name) = rs.map (·.name) := by simp [RF.p]
theorem sorted_names {l : List PF} (h : SortedL l) : namesS l = l.map (·.name) := by
  have h1 : ((l.map (·.name)).map (fun s : ByteArray => s.data.toList)).mergeSort leB = (l.map (·.name)).map (fun s : ByteArray => s.data.toList) := by
    refine List.mergeSort_of_pairwise ?_
    rw [List.pairwise_map, List.pairwise_map]
    exact h.imp fun h => by simp only [leB, decide_eq_true_eq]; exact List.le_of_lt h
  rw [namesS, sortN, h1, List.map_map]
  have : ((fun b => (⟨b.toArray⟩ : ByteArray)) ∘ fun (s : ByteArray) => s.data.toList) = id := funext fun s => data_back s
  rw [this, List.map_id]
theorem used_take {i : Nat} {r : RF} (h : rs[i]? = some r) : usedL ((rs.take (i + 1)).map RF.p) = usedL ((rs.take i).map RF.p) + r.bytes.length := by rw [take_snoc h]; simp [usedL, RF.p]
theorem usedR_le (rs : List RF) (i : Nat) : usedL ((rs.take i).map RF.p) ≤ usedL (rs.map RF.p) := usedL_sub ((List.take_sublist i rs).map _)
theorem okC_r {c : UInt8} (h : ((97 ≤ (c.toNat : Int) ∧ (c.toNat : Int) ≤ 122) ∨ (65 ≤ (c.toNat : Int) ∧ (c.toNat : Int) ≤ 90)) ∨ (48 ≤ (c.toNat : Int) ∧ (c.toNat : Int) ≤ 57)) : okC c = true := okC_yes (by omega)
theorem mayR_end {s : ByteArray} (h : NoB (fun c => !okC c) s.data.toList s.data.toList.length) : mayN s = (decide (1 ≤ ((s.size : Nat) : Int)) && decide (((s.size : Nat) : Int) ≤ 32)) := by
  rw [mayN_end h, emptyS]
  rw [Bool.eq_iff_iff]
  simp only [Bool.and_eq_true, decide_eq_true_eq, Bool.not_eq_true', decide_eq_false_iff_not]
  omega
def keepR (n : ByteArray) (rs : List RF) (i : Nat) : List RF := (rs.take i).filter (fun r => decide (r.name ≠ n))
theorem keepR_len (n : ByteArray) (rs : List RF) (i : Nat) : (keepR n rs i).length ≤ rs.length := by
  unfold keepR
  have := List.length_filter_le (fun r => decide (r.name ≠ n)) (rs.take i)
  have := List.length_take_le i rs
  have := List.length_take (i := i) (l := rs)
  omega
theorem keepR_yes {n : ByteArray} {i : Nat} {r : RF} (h : rs[i]? = some r) (hn : r.name ≠ n) : (keepR n rs i).map RF.c ++ [r.c] = (keepR n rs (i + 1)).map RF.c := by
  rw [keepR, keepR, take_snoc h, List.filter_append, List.filter_cons, if_pos (by simpa using hn)]; simp
theorem keepR_no {n : ByteArray} {i : Nat} {r : RF} (h : rs[i]? = some r) (hn : r.name = n) : keepR n rs (i + 1) = keepR n rs i := by
  rw [keepR, keepR, take_snoc h, List.filter_append, List.filter_cons, if_neg (by simp [hn])]; simp
theorem keepR_all (n : ByteArray) (rs : List RF) : (keepR n rs rs.length).map RF.p = remL (rs.map RF.p) n := by
  rw [keepR, List.take_length, remL, List.filter_map]; rfl
theorem keepR_sub (n : ByteArray) (rs : List RF) (i : Nat) : ∀ r ∈ keepR n rs i, r ∈ rs := fun r hr => List.mem_of_mem_take (List.mem_filter.1 hr).1
/-- a file in its place -/
def insR (r : RF) : List RF → List RF
  | [] => [r]
  | y :: l => if r.name.data.toList < y.name.data.toList then r :: y :: l else y :: insR r l
theorem insR_perm (r : RF) : ∀ l, (insR r l).Perm (l ++ [r])
  | [] => List.Perm.refl _
  | y :: l => by
    rw [insR]
    split
    · exact (List.perm_append_singleton r (y :: l)).symm
    · exact (insR_perm r l).cons y
theorem insR_mem {r z : RF} {l : List RF} (h : z ∈ insR r l) : z ∈ r :: l := by have := (insR_perm r l).mem_iff.1 h; simp at this ⊢; exact this.symm
theorem insR_sorted {r : RF} : ∀ {l : List RF}, SortedL (l.map RF.p) → (∀ y ∈ l, y.name ≠ r.name) → SortedL ((insR r l).map RF.p)
  | [], _, _ => by simp [insR, SortedL]
  | y :: l, h, hn => by
    rw [SortedL, List.map_cons, List.pairwise_cons] at h
    have hy : ∀ z ∈ l, y.name.data.toList < z.name.data.toList := fun z hz => h.1 z.p (List.mem_map.2 ⟨z, hz, rfl⟩)
    rw [insR]
    split
    · rename_i hlt
      rw [SortedL, List.map_cons, List.map_cons, List.pairwise_cons, List.pairwise_cons]
      refine ⟨fun z hz => ?_, fun z hz => h.1 z hz, h.2⟩
      rcases List.mem_cons.1 hz with rfl | hz
      · exact hlt
      · obtain ⟨q, hq, rfl⟩ := List.mem_map.1 hz
        exact List.lt_trans hlt (hy q hq)
    · rename_i hge
      rw [SortedL, List.map_cons, List.pairwise_cons]
      refine ⟨fun z hz => ?_, insR_sorted h.2 (fun z hz => hn z (List.mem_cons_of_mem _ hz))⟩
      obtain ⟨q, hq, rfl⟩ := List.mem_map.1 hz
      have hne : y.name.data.toList ≠ r.name.data.toList := fun e => hn y (by simp) (by rw [← data_back y.name, ← data_back r.name, e])
      have hyr : y.name.data.toList < r.name.data.toList := by
        by_cases c : y.name.data.toList < r.name.data.toList
        · exact c
        · exact absurd (List.le_antisymm (List.not_lt.1 hge) (List.not_lt.1 c)) hne
      rcases List.mem_cons.1 (insR_mem hq) with rfl | hq
      · exact hyr
      · exact hy q hq
/-- the state of putting r in: what is built, whether r is in it -/
def InsI (r : RF) (rs : List RF) (i : Nat) (out : List RF) (dn : Bool) : Prop := (dn = false ∧ out = rs.take i ∧ insR r rs = rs.take i ++ insR r (rs.drop i)) ∨ (dn = true ∧ insR r rs = out ++ rs.drop i)
theorem InsI.zero (r : RF) (rs : List RF) : InsI r rs 0 [] false := .inl ⟨rfl, by simp, by simp⟩
theorem InsI.in {r y : RF} {i : Nat} {out : List RF} {dn : Bool} (h : InsI r rs i out dn) (hy : rs[i]? = some y) (hd : dn = false) (hlt : r.name.data.toList < y.name.data.toList) : InsI r rs (i + 1) (out ++ [r] ++ [y]) true := by
  rcases h with ⟨_, h1, h2⟩ | ⟨h1, _⟩
  · refine .inr ⟨rfl, ?_⟩
    rw [h2, drop_cons hy, insR, if_pos hlt, h1]; simp
  · rw [hd] at h1; cases h1
theorem InsI.on {r y : RF} {i : Nat} {out : List RF} {dn : Bool} (h : InsI r rs i out dn) (hy : rs[i]? = some y) (hd : dn = true ∨ ¬ r.name.data.toList < y.name.data.toList) : InsI r rs (i + 1) (out ++ [y]) dn := by
  rcases h with ⟨h0, h1, h2⟩ | ⟨h0, h1⟩
  · refine .inl ⟨h0, by rw [h1, take_snoc hy], ?_⟩
    rw [h2, drop_cons hy, insR, if_neg (hd.resolve_left (by rw [h0]; decide)), take_snoc hy]; simp
  · exact .inr ⟨h0, by rw [h1, drop_cons hy]; simp⟩
theorem InsI.end1 {r : RF} {out : List RF} (h : InsI r rs rs.length out true) : out = insR r rs := by
  rcases h with ⟨h0, _⟩ | ⟨_, h1⟩
  · cases h0
  · rw [h1, List.drop_length, List.append_nil]
theorem InsI.end0 {r : RF} {out : List RF} (h : InsI r rs rs.length out false) : out ++ [r] = insR r rs := by
  rcases h with ⟨_, h1, h2⟩ | ⟨h0, _⟩
  · rw [h2, h1, List.drop_length]; rfl
  · cases h0
theorem InsI.len {r : RF} {i : Nat} {out : List RF} {dn : Bool} (h : InsI r rs i out dn) : out.length ≤ rs.length + 1 := by
  rcases h with ⟨_, h1, _⟩ | ⟨_, h1⟩
  · rw [h1, List.length_take]; omega
  · have := congrArg List.length h1
    rw [(insR_perm r rs).length_eq] at this
    simp at this; omega
end

theorem ty87 : Ty Try.prog 87 1 24 (.slice (none) (0) (0)) false := ty_of (by kernel_rfl) (by kernel_rfl)
theorem ty93 : Ty Try.prog 93 3 48 (.agg #[.string (⟨#[]⟩), .slice (none) (0) (0), .int .i64 (0)]) true := ty_of (by kernel_rfl) (by kernel_rfl)
theorem en62 : Enters Try.prog 62 := enters_of Try.func62 rfl (by kernel_rfl)
theorem en63 : Enters Try.prog 63 := enters_of Try.func63 rfl (by kernel_rfl)

set_option maxRecDepth 100000 in
set_option maxHeartbeats 4000000 in
theorem mayR (s : ByteArray) (w : World) (hs : s.size ≤ 4294967295) :
    Calls Try.prog 62 #[.string (s)] w (Ret (fun v w' => v = .bool (mayN s) ∧ Ext w w')) := by
  have hsl : s.data.toList.length = s.size := dataLen s
  refine calls_run (n := 59) Try.func62 rfl rfl rfl ?_
  refine Run.seq ?_
  refine Run.region ?_
  refine RL.val (x_assignB rfl) ?_
  refine RL.nil ?_
  refine Run.seq ?_
  refine Run.seq ?_
  refine Run.region ?_
  refine RL.val (x_assignI rfl) ?_
  refine RL.nil ?_
  refine Run.block ?_
  refine Run.loop (ι := Nat) (fun i ρ' w' => Holds ρ' [(0, .string (s)), (3, .int .i64 (((i : Nat) : Int)))] ∧ Ext w w' ∧ (i ≤ s.data.toList.length) ∧ (NoB (fun c => !okC c) s.data.toList i)) (fun i => s.data.toList.length - i) 0 ?_ ?_
  · refine ⟨⟨rfl, rfl, trivial⟩, (Keeps.refl _ w), ?_, ?_⟩
    · omega
    · exact NoB.zero _ _
  rintro i ρ_3 w_1 ⟨hH_2, K0, hi, hno⟩ ih1
  obtain ⟨ρ₀, rfl⟩ := hH_2.ex
  clear hH_2
  refine Run.seq ?_
  refine Run.seq ?_
  refine Run.region ?_
  refine RL.val (x_moveI rfl) ?_
  refine RL.val (x_moveS rfl) ?_
  refine RL.val (x_lenStr Try.underlying9 rfl) ?_
  refine RL.val (x_ltI rfl rfl) ?_
  refine RL.nil ?_
  refine Run.cond rfl (fun hc9 => ?_) (fun hc9 => ?_)
  · try simp only [br] at hc9
    refine Run.skip ?_
    refine Run.seq ?_
    refine Run.block ?_
    refine Run.seq ?_
    obtain ⟨c, hx⟩ : ∃ c, s.data.toList[i]? = some c := ⟨_, List.getElem?_eq_getElem (by omega)⟩
    refine Run.region ?_
    refine RL.val (x_moveS rfl) ?_
    refine RL.val (x_moveI rfl) ?_
    refine RL.val (x_idxStrN Try.underlying9 rfl rfl hx) ?_
    refine RL.val (x_assignI rfl) ?_
    refine RL.nil ?_
    refine Run.seq ?_
    refine Run.region ?_
    refine RL.val (x_moveI rfl) ?_
    refine RL.val (x_geI rfl rfl) ?_
    refine RL.val (x_moveB rfl) ?_
    refine RL.gval (wantedT rfl rfl rfl rfl) (fun hg => (x_moveI rfl)) ?_
    refine RL.gval (wantedT rfl rfl rfl rfl) (fun hg => (x_leI (gvr hg) rfl)) ?_
    refine RL.val (x_and rfl rfl rfl) ?_
    refine RL.val (x_moveB rfl) ?_
    refine RL.gval (wantedF rfl rfl rfl rfl) (fun hg => (x_moveI rfl)) ?_
    refine RL.gval (wantedF rfl rfl rfl rfl) (fun hg => (x_geI (gvr hg) rfl)) ?_
    refine RL.gval (wantedF rfl rfl rfl rfl) (fun hg => (x_moveB (gvr hg))) ?_
    refine RL.gval (wantedGT rfl rfl rfl rfl) (fun hg => (x_moveI rfl)) ?_
    refine RL.gval (wantedGT rfl rfl rfl rfl) (fun hg => (x_leI (gvr hg) rfl)) ?_
    refine RL.gval (wantedF rfl rfl rfl rfl) (fun hg => (x_andG hg rfl rfl rfl)) ?_
    refine RL.val (x_or rfl rfl rfl) ?_
    refine RL.val (x_moveB rfl) ?_
    refine RL.gval (wantedF rfl rfl rfl rfl) (fun hg => (x_moveI rfl)) ?_
    refine RL.gval (wantedF rfl rfl rfl rfl) (fun hg => (x_geI (gvr hg) rfl)) ?_
    refine RL.gval (wantedF rfl rfl rfl rfl) (fun hg => (x_moveB (gvr hg))) ?_
    refine RL.gval (wantedGT rfl rfl rfl rfl) (fun hg => (x_moveI rfl)) ?_
    refine RL.gval (wantedGT rfl rfl rfl rfl) (fun hg => (x_leI (gvr hg) rfl)) ?_
    refine RL.gval (wantedF rfl rfl rfl rfl) (fun hg => (x_andG hg rfl rfl rfl)) ?_
    refine RL.val (x_or rfl rfl rfl) ?_
    refine RL.val (x_assignB rfl) ?_
    refine RL.nil ?_
    refine Run.seq ?_
    refine Run.region ?_
    refine RL.val (x_moveB rfl) ?_
    refine RL.val (x_not rfl) ?_
    refine RL.val (x_moveB rfl) ?_
    refine RL.gval (wantedT rfl rfl rfl rfl) (fun hg => (x_moveI rfl)) ?_
    refine RL.gval (wantedT rfl rfl rfl rfl) (fun hg => (x_neI (gvr hg) rfl)) ?_
    refine RL.val (x_and rfl rfl rfl) ?_
    refine RL.val (x_moveB rfl) ?_
    refine RL.gval (wantedT rfl rfl rfl rfl) (fun hg => (x_moveI rfl)) ?_
    refine RL.gval (wantedT rfl rfl rfl rfl) (fun hg => (x_neI (gvr hg) rfl)) ?_
    refine RL.val (x_and rfl rfl rfl) ?_
    refine RL.val (x_moveB rfl) ?_
    refine RL.gval (wantedT rfl rfl rfl rfl) (fun hg => (x_moveI rfl)) ?_
    refine RL.gval (wantedT rfl rfl rfl rfl) (fun hg => (x_neI (gvr hg) rfl)) ?_
    refine RL.val (x_and rfl rfl rfl) ?_
    refine RL.nil ?_
    refine Run.cond rfl (fun hc50 => ?_) (fun hc50 => ?_)
    · try simp only [br] at hc50
      refine Run.seq ?_
      refine Run.region ?_
      refine RL.val (x_assignB rfl) ?_
      refine RL.nil ?_
      refine Run.ret1 (v := .bool (false)) Try.func62 rfl rfl ?_
      exact ⟨_, rfl, by rw [mayN_no hx (by cases hq : okC c with
          | false => rfl
          | true => exfalso; have hq2 := of_decide_eq_true hq; omega)], K0⟩
    · try simp only [br] at hc50
      have hok1 : okC c = true := by
        first
        | (refine okC_yes ?_; omega)
        | (cases hq : okC c with
          | true => rfl
          | false => exfalso; have hq2 := okC_no hq; omega)
      refine Run.skip ?_
      refine Run.inBlock ?_
      refine Run.region ?_
      refine RL.val (x_moveI rfl) ?_
      refine RL.val (litI (c := ((i + 1 : Nat) : Int)) (x_add rfl rfl (by omega) (by omega)) rfl) ?_
      refine RL.val (x_assignI rfl) ?_
      refine RL.nil ?_
      refine ih1 (i + 1) _ _ ?_ (by omega)
      refine ⟨⟨rfl, rfl, trivial⟩, K0, ?_, ?_⟩
      · omega
      · exact hno.step hx (by rw [hok1]; rfl)
  · try simp only [br] at hc9
    refine Run.exit rfl ?_
    refine Run.seq ?_
    refine Run.region ?_
    refine RL.val (x_moveS rfl) ?_
    refine RL.val (x_lenStr Try.underlying9 rfl) ?_
    refine RL.val (x_geI rfl rfl) ?_
    refine RL.val (x_moveB rfl) ?_
    refine RL.gval (wantedT rfl rfl rfl rfl) (fun hg => (x_moveS rfl)) ?_
    refine RL.gval (wantedT rfl rfl rfl rfl) (fun hg => (x_lenStr Try.underlying9 (gvr hg))) ?_
    refine RL.gval (wantedT rfl rfl rfl rfl) (fun hg => (x_leI (gvr hg) rfl)) ?_
    refine RL.val (x_and rfl rfl rfl) ?_
    refine RL.val (x_assignB rfl) ?_
    refine RL.nil ?_
    refine Run.ret1 (v := .bool ((decide (1 ≤ (((s).size : Nat) : Int))) && (decide ((((s).size : Nat) : Int) ≤ 32)))) Try.func62 rfl rfl ?_
    have hil : i = s.data.toList.length := by omega
    subst hil
    exact ⟨_, rfl, by rw [mayR_end hno], K0⟩

set_option maxRecDepth 100000 in
set_option maxHeartbeats 4000000 in
theorem findR (x : Nat) (al : Option Addr) (cl : Nat) (room : Int) (rs : List RF) (name : ByteArray) (w : World) (hD : RefM w x al cl room rs) (hl : rs.length ≤ 65) :
    Calls Try.prog 63 #[.pointer (some ⟨x, 0, none⟩), .string (name)] w (Ret (fun v w' => v = .int .i64 (findI (fun r : RF => decide (r.name = name)) rs) ∧ Ext w w')) := by
  obtain ⟨hb, ho, hy, hox, hbx, hbo⟩ := hD
  have hml : (rs.map RF.c).length = rs.length := List.length_map ..
  refine calls_run (n := 26) Try.func63 rfl rfl rfl ?_
  refine Run.seq ?_
  refine Run.region ?_
  refine RL.val (x_assignI rfl) ?_
  refine RL.nil ?_
  refine Run.seq ?_
  refine Run.seq ?_
  refine Run.region ?_
  refine RL.val (x_assignI rfl) ?_
  refine RL.nil ?_
  refine Run.block ?_
  refine Run.loop (ι := Nat) (fun i ρ' w' => Holds ρ' [(0, .pointer (some ⟨x, 0, none⟩)), (1, .string (name)), (5, .int .i64 (((i : Nat) : Int)))] ∧ Ext w w' ∧ (Blk w' x [.int .i64 (room), .slice (al) ((rs.map RF.c).length) (cl)] 89) ∧ (OwnSl w' 93 (al) (cl) (rs.map RF.c)) ∧ (BytesAt w' rs) ∧ (i ≤ rs.length) ∧ (NoB (fun r : RF => decide (r.name = name)) rs i)) (fun i => rs.length - i) 0 ?_ ?_
  · refine ⟨⟨rfl, rfl, rfl, trivial⟩, (Keeps.refl _ w), hb, ho, hy, ?_, ?_⟩
    · omega
    · exact NoB.zero _ _
  clear hb ho hy
  rintro i ρ_3 w_1 ⟨hH_2, K0, hb, ho, hy, hi, hno⟩ ih1
  obtain ⟨ρ₀, rfl⟩ := hH_2.ex
  clear hH_2
  refine Run.seq ?_
  refine Run.seq ?_
  refine Run.region ?_
  refine RL.val (x_moveI rfl) ?_
  refine RL.val (x_moveP rfl) ?_
  refine RL.val (x_nilCheck rfl) ?_
  refine RL.val (x_fld (o' := 1) Try.underlying89 rfl ty87 rfl rfl rfl) ?_
  refine RL.val (x_ld (v := .slice (al) ((rs.map RF.c).length) (cl)) ty87 rfl rfl (hb.cl.field (i := 1) rfl)) ?_
  refine RL.val (x_lenSl Try.underlying87 rfl) ?_
  refine RL.val (x_ltI rfl rfl) ?_
  refine RL.nil ?_
  refine Run.cond rfl (fun hc12 => ?_) (fun hc12 => ?_)
  · try simp only [br] at hc12
    refine Run.skip ?_
    refine Run.seq ?_
    refine Run.block ?_
    refine Run.seq ?_
    refine Run.region ?_
    refine RL.val (x_moveP rfl) ?_
    refine RL.val (x_nilCheck rfl) ?_
    refine RL.val (x_fld (o' := 1) Try.underlying89 rfl ty87 rfl rfl rfl) ?_
    refine RL.val (x_ld (v := .slice (al) ((rs.map RF.c).length) (cl)) ty87 rfl rfl (hb.cl.field (i := 1) rfl)) ?_
    refine RL.val (x_moveI rfl) ?_
    obtain ⟨b_4, o_5, y, hx, ha_6, hc_7⟩ := ho.sl.el (i := i) (by first | omega | (simp only [List.length_set]; omega))
    refine RL.val (x_idxN Try.underlying87 ty93 rfl rfl ha_6 (by first | omega | (simp only [List.length_set]; omega))) ?_
    refine RL.val (x_fld (o' := o_5 + i * 3 + 0) Try.underlying93 rfl ty9 rfl rfl rfl) ?_
    refine RL.val (x_ld ty9 rfl rfl (hc_7.field (i := 0) rfl)) ?_
    refine RL.val (x_moveS rfl) ?_
    refine RL.val (x_eqS rfl rfl) ?_
    refine RL.nil ?_
    obtain ⟨r, hr, hxr⟩ := rf_get hx
    have hn_r : y.name = r.name := by rw [hxr]; rfl
    refine Run.cond rfl (fun hc24 => ?_) (fun hc24 => ?_)
    · try simp only [br] at hc24
      refine Run.seq ?_
      refine Run.region ?_
      refine RL.val (x_moveI rfl) ?_
      refine RL.val (x_assignI rfl) ?_
      refine RL.nil ?_
      refine Run.ret1 (v := .int .i64 (((i : Nat) : Int))) Try.func63 rfl rfl ?_
      exact ⟨_, rfl, by rw [findI_at hr (by simpa using hn_r.symm.trans hc24) hno], K0⟩
    · try simp only [br] at hc24
      refine Run.skip ?_
      refine Run.inBlock ?_
      refine Run.region ?_
      refine RL.val (x_moveI rfl) ?_
      refine RL.val (litI (c := ((i + 1 : Nat) : Int)) (x_add rfl rfl (by omega) (by omega)) rfl) ?_
      refine RL.val (x_assignI rfl) ?_
      refine RL.nil ?_
      refine ih1 (i + 1) _ _ ?_ (by omega)
      refine ⟨⟨rfl, rfl, rfl, trivial⟩, K0, hb, ho, hy, ?_, ?_⟩
      · omega
      · exact hno.step hr (by simpa [hn_r] using hc24)
  · try simp only [br] at hc12
    refine Run.exit rfl ?_
    refine Run.seq ?_
    refine Run.region ?_
    refine RL.val (x_assignI rfl) ?_
    refine RL.nil ?_
    refine Run.ret1 (v := .int .i64 (-1)) Try.func63 rfl rfl ?_
    exact ⟨_, rfl, by rw [findI_no hno (by omega)], K0⟩

theorem rfind (rs : List RF) (n : ByteArray) : ((∀ r ∈ rs, r.name ≠ n) ∧ findI (fun r : RF => decide (r.name = n)) rs = -1) ∨ ∃ (i : Nat) (r : RF), rs[i]? = some r ∧ r.name = n ∧ findI (fun r : RF => decide (r.name = n)) rs = (i : Int) := by
  unfold findI
  cases h : rs.findIdx? (fun r : RF => decide (r.name = n)) with
  | none =>
    rw [List.findIdx?_eq_none_iff] at h
    exact .inl ⟨fun r hr => by simpa using h r hr, rfl⟩
  | some i =>
    obtain ⟨hi, h1, _⟩ := List.findIdx?_eq_some_iff_getElem.1 h
    exact .inr ⟨i, rs[i], List.getElem?_eq_getElem hi, by simpa using h1, rfl⟩

set_option maxRecDepth 100000 in
set_option maxHeartbeats 4000000 in
theorem lookR (x : Nat) (al : Option Addr) (cl : Nat) (room : Int) (rs : List RF) (name : ByteArray) (w : World) (hD : RefM w x al cl room rs) (hl : rs.length ≤ 65) (hs : name.size ≤ 4294967295) :
    Calls Try.prog 65 #[.pointer (some ⟨x, 0, none⟩), .string (name)] w (Ret (fun v w' => Ext w w' ∧ ((mayN name = false ∧ v = .tuple #[.int .i64 0, .int .i64 6]) ∨ (mayN name = true ∧ (∀ r ∈ rs, r.name ≠ name) ∧ v = .tuple #[.int .i64 0, .int .i64 20]) ∨ (mayN name = true ∧ ∃ (i : Nat) (r : RF), rs[i]? = some r ∧ r.name = name ∧ v = .tuple #[.int .i64 ((i : Nat) : Int), .int .i64 0])))) := by
  obtain ⟨hb, ho, hy, hox, hbx, hbo⟩ := hD
  have hml : (rs.map RF.c).length = rs.length := List.length_map ..
  refine calls_run (n := 16) Try.func65 rfl rfl rfl ?_
  refine Run.seq ?_
  refine Run.region ?_
  refine RL.val (x_assignI rfl) ?_
  refine RL.val (x_assignI rfl) ?_
  refine RL.nil ?_
  refine Run.seq ?_
  refine Run.seq ?_
  refine Run.region ?_
  refine RL.val (x_moveS rfl) ?_
  refine RL.st rfl <| St1.call (vals := [.string (name)]) en62 rfl (mayR name _ (by omega)) ?_
  rintro _ w_1 ⟨rfl, K_2⟩
  replace hb := hb.ext K_2
  replace ho := ho.ext K_2
  replace hy := hy.ext K_2
  have K0 := (K_2 : Ext w _)
  refine RL.val (x_not rfl) ?_
  refine RL.nil ?_
  refine Run.cond rfl (fun hc9 => ?_) (fun hc9 => ?_)
  · try simp only [br] at hc9
    refine Run.seq ?_
    refine Run.region ?_
    refine RL.val (x_assignI rfl) ?_
    refine RL.val (x_assignI rfl) ?_
    refine RL.nil ?_
    refine Run.ret2 (v := .int .i64 (0)) (x := .int .i64 (6)) Try.func65 rfl rfl rfl ?_
    exact ⟨_, rfl, K0, .inl ⟨by simpa using hc9, rfl⟩⟩
  · try simp only [br] at hc9
    refine Run.skip ?_
    refine Run.seq ?_
    refine Run.region ?_
    refine RL.val (x_moveP rfl) ?_
    refine RL.val (x_moveS rfl) ?_
    refine RL.st rfl <| St1.call (vals := [.pointer (some ⟨x, 0, none⟩), .string (name)]) en63 rfl (findR x al cl room rs name _ (⟨hb, ho, hy, hox, hbx, hbo⟩ : RefM _ x al cl room rs) (by omega)) ?_
    rintro _ w_3 ⟨rfl, K_4⟩
    rcases rfind rs name with ⟨hrno, hf_5⟩ | ⟨ri, r, hr, hrn, hf_5⟩
    · rw [hf_5]
      replace hb := hb.ext K_4
      replace ho := ho.ext K_4
      replace hy := hy.ext K_4
      replace K0 := K0.ext K_4
      refine RL.val (x_assignI rfl) ?_
      refine RL.nil ?_
      refine Run.seq ?_
      refine Run.seq ?_
      refine Run.region ?_
      refine RL.val (x_moveI rfl) ?_
      refine RL.val (litT (x_ltI rfl rfl) (by decide)) ?_
      refine RL.nil ?_
      refine Run.condT rfl ?_
      refine Run.seq ?_
      refine Run.region ?_
      refine RL.val (x_assignI rfl) ?_
      refine RL.val (x_assignI rfl) ?_
      refine RL.nil ?_
      refine Run.ret2 (v := .int .i64 (0)) (x := .int .i64 (20)) Try.func65 rfl rfl rfl ?_
      exact ⟨_, rfl, K0, .inr (.inl ⟨by simpa using hc9, hrno, rfl⟩)⟩
    · rw [hf_5]
      have hrl : ri < rs.length := (List.getElem?_eq_some_iff.1 hr).1
      replace hb := hb.ext K_4
      replace ho := ho.ext K_4
      replace hy := hy.ext K_4
      replace K0 := K0.ext K_4
      refine RL.val (x_assignI rfl) ?_
      refine RL.nil ?_
      refine Run.seq ?_
      refine Run.seq ?_
      refine Run.region ?_
      refine RL.val (x_moveI rfl) ?_
      refine RL.val (litF (x_ltI rfl rfl) (decide_eq_false (by omega))) ?_
      refine RL.nil ?_
      refine Run.condF rfl ?_
      refine Run.skip ?_
      refine Run.seq ?_
      refine Run.region ?_
      refine RL.val (x_moveI rfl) ?_
      refine RL.val (x_assignI rfl) ?_
      refine RL.val (x_assignI rfl) ?_
      refine RL.nil ?_
      refine Run.ret2 (v := .int .i64 (((ri : Nat) : Int))) (x := .int .i64 (0)) Try.func65 rfl rfl rfl ?_
      exact ⟨_, rfl, K0, .inr (.inr ⟨by simpa using hc9, ri, r, hr, hrn, rfl⟩)⟩

set_option maxRecDepth 100000 in
set_option maxHeartbeats 4000000 in
theorem usedR (x : Nat) (al : Option Addr) (cl : Nat) (room : Int) (rs : List RF) (w : World) (hD : RefM w x al cl room rs) (hl : rs.length ≤ 65) (hu : usedL (rs.map RF.p) ≤ 16777216) :
    Calls Try.prog 45 #[.pointer (some ⟨x, 0, none⟩)] w (Ret (fun v w' => v = .int .i64 ((usedL (rs.map RF.p) : Nat) : Int) ∧ Ext w w')) := by
  obtain ⟨hb, ho, hy, hox, hbx, hbo⟩ := hD
  have hml : (rs.map RF.c).length = rs.length := List.length_map ..
  refine calls_run (n := 26) Try.func45 rfl rfl rfl ?_
  refine Run.seq ?_
  refine Run.region ?_
  refine RL.val (x_assignI rfl) ?_
  refine RL.nil ?_
  refine Run.seq ?_
  refine Run.region ?_
  refine RL.val (x_assignI rfl) ?_
  refine RL.nil ?_
  refine Run.seq ?_
  refine Run.seq ?_
  refine Run.region ?_
  refine RL.val (x_assignI rfl) ?_
  refine RL.nil ?_
  refine Run.block ?_
  refine Run.loop (ι := Nat) (fun i ρ' w' => Holds ρ' [(0, .pointer (some ⟨x, 0, none⟩)), (3, .int .i64 (((usedL ((rs.take i).map RF.p) : Nat) : Int))), (4, .int .i64 (((i : Nat) : Int)))] ∧ Ext w w' ∧ (Blk w' x [.int .i64 (room), .slice (al) ((rs.map RF.c).length) (cl)] 89) ∧ (OwnSl w' 93 (al) (cl) (rs.map RF.c)) ∧ (BytesAt w' rs) ∧ (i ≤ rs.length)) (fun i => rs.length - i) 0 ?_ ?_
  · refine ⟨⟨rfl, rfl, rfl, trivial⟩, (Keeps.refl _ w), hb, ho, hy, ?_⟩
    · omega
  clear hb ho hy
  rintro i ρ_3 w_1 ⟨hH_2, K0, hb, ho, hy, hi⟩ ih1
  obtain ⟨ρ₀, rfl⟩ := hH_2.ex
  clear hH_2
  refine Run.seq ?_
  refine Run.seq ?_
  refine Run.region ?_
  refine RL.val (x_moveI rfl) ?_
  refine RL.val (x_moveP rfl) ?_
  refine RL.val (x_nilCheck rfl) ?_
  refine RL.val (x_fld (o' := 1) Try.underlying89 rfl ty87 rfl rfl rfl) ?_
  refine RL.val (x_ld (v := .slice (al) ((rs.map RF.c).length) (cl)) ty87 rfl rfl (hb.cl.field (i := 1) rfl)) ?_
  refine RL.val (x_lenSl Try.underlying87 rfl) ?_
  refine RL.val (x_ltI rfl rfl) ?_
  refine RL.nil ?_
  refine Run.cond rfl (fun hc11 => ?_) (fun hc11 => ?_)
  · try simp only [br] at hc11
    refine Run.skip ?_
    refine Run.seq ?_
    refine Run.block ?_
    refine Run.region ?_
    refine RL.val (x_moveI rfl) ?_
    refine RL.val (x_moveP rfl) ?_
    refine RL.val (x_nilCheck rfl) ?_
    refine RL.val (x_fld (o' := 1) Try.underlying89 rfl ty87 rfl rfl rfl) ?_
    refine RL.val (x_ld (v := .slice (al) ((rs.map RF.c).length) (cl)) ty87 rfl rfl (hb.cl.field (i := 1) rfl)) ?_
    refine RL.val (x_moveI rfl) ?_
    obtain ⟨b_4, o_5, y, hx, ha_6, hc_7⟩ := ho.sl.el (i := i) (by first | omega | (simp only [List.length_set]; omega))
    refine RL.val (x_idxN Try.underlying87 ty93 rfl rfl ha_6 (by first | omega | (simp only [List.length_set]; omega))) ?_
    obtain ⟨r, hr, hxr⟩ := rf_get hx
    have hn_r : y.name = r.name := by rw [hxr]; rfl
    have e0 := used_take hr
    have e1 := usedR_le rs (i + 1)
    refine RL.val (x_fld (o' := o_5 + i * 3 + 1) Try.underlying93 rfl ty26 rfl rfl rfl) ?_
    refine RL.val (litV (v' := .slice r.a r.bytes.length r.cap) (x_ld ty26 rfl rfl (hc_7.field (i := 1) rfl)) (by rw [hxr]; rfl)) ?_
    refine RL.val (x_lenSl Try.underlying26 rfl) ?_
    refine RL.val (litI (c := ((usedL ((rs.take (i + 1)).map RF.p) : Nat) : Int)) (litI (c := (((usedL ((rs.take i).map RF.p)) + r.bytes.length : Nat) : Int)) (x_add rfl rfl (by omega) (by omega)) rfl) (by rw [e0])) ?_
    refine RL.val (x_assignI rfl) ?_
    refine RL.nil ?_
    refine Run.inBlock ?_
    refine Run.region ?_
    refine RL.val (x_moveI rfl) ?_
    refine RL.val (litI (c := ((i + 1 : Nat) : Int)) (x_add rfl rfl (by omega) (by omega)) rfl) ?_
    refine RL.val (x_assignI rfl) ?_
    refine RL.nil ?_
    refine ih1 (i + 1) _ _ ?_ (by omega)
    refine ⟨⟨rfl, rfl, rfl, trivial⟩, K0, hb, ho, hy, ?_⟩
    · omega
  · try simp only [br] at hc11
    refine Run.exit rfl ?_
    refine Run.seq ?_
    refine Run.region ?_
    refine RL.val (x_moveI rfl) ?_
    refine RL.val (x_assignI rfl) ?_
    refine RL.nil ?_
    refine Run.ret1 (v := .int .i64 (((usedL ((rs.take i).map RF.p) : Nat) : Int))) Try.func45 rfl rfl ?_
    have hil : i = rs.length := by omega
    rw [hil, List.take_length]
    exact ⟨_, rfl, rfl, K0⟩

end Go.Proofs.Ytambibdkanpmaaa
