/-
  Layer 2's things in memory, and plain models of what is done to a disk.
-/
import Derived.Test.YtnphndfbgdkgbaaGreatDoorRows
import Derived.Test.YtnphndfbgdkgbaaGreatDoorMap
import Derived.Test.YtnphndfbgdkgbaaGreatDoorPlain
namespace Go.Proofs.YtnphndfbgdkgbaaGreatDoor
attribute [local irreducible] St1 RL RA RT RT1 Run

/-! ### plain -/
structure PF where
  name : ByteArray
  bytes : List UInt8
  synced : Nat
def okC (c : UInt8) : Bool := decide (c.toNat = 46 ∨ c.toNat = 45 ∨ c.toNat = 95 ∨ (48 ≤ c.toNat ∧ c.toNat ≤ 57) ∨ (97 ≤ c.toNat ∧ c.toNat ≤ 122) ∨ (65 ≤ c.toNat ∧ c.toNat ≤ 90))
/-- a file's name -/
def mayN (s : ByteArray) : Bool := s.data.toList.all okC && (decide (s.size ≠ 0) && decide (s.size ≤ 32))
def usedL (pl : List PF) : Nat := (pl.map (·.bytes.length)).sum
def hasL (pl : List PF) (n : ByteArray) : Bool := pl.any (fun f => decide (f.name = n))
def lookL (pl : List PF) (n : ByteArray) : Option PF := pl.find? (fun f => decide (f.name = n))
def lookE (pl : List PF) (n : ByteArray) : Int := if mayN n then (if hasL pl n then 0 else 20) else 6
/-- at the file of a name -/
def updL (pl : List PF) (n : ByteArray) (u : PF → PF) : List PF := pl.map fun f => if f.name = n then u f else f
def appE (room : Int) (pl : List PF) (n : ByteArray) (b : List UInt8) : Int :=
  if mayN n then (if (hasL pl n = false ∧ 64 ≤ pl.length) ∨ room - (usedL pl : Int) < (b.length : Int) then 7 else 0) else 6
def appL (room : Int) (pl : List PF) (n : ByteArray) (b : List UInt8) : List PF :=
  if appE room pl n b = 0 then (if hasL pl n then updL pl n (fun f => { f with bytes := f.bytes ++ b }) else pl ++ [⟨n, b, 0⟩]) else pl
def syncL (pl : List PF) (n : ByteArray) : List PF := updL pl n (fun f => { f with synced := f.bytes.length })
def remL (pl : List PF) (n : ByteArray) : List PF := pl.filter (fun f => decide (f.name ≠ n))
def renE (pl : List PF) (n to : ByteArray) : Int := if mayN n then (if mayN to then (if hasL pl n then 0 else 20) else 6) else 6
def renL (pl : List PF) (n to : ByteArray) : List PF := if renE pl n to = 0 then (match lookL pl n with | some f => remL (remL pl n) to ++ [{ f with name := to }] | none => pl) else pl
structure PTear where
  name : ByteArray
  keep : Int
  junk : List UInt8
def tearOk (f : PF) (t : PTear) : Bool := decide (0 ≤ t.keep) && (decide (t.keep ≤ (f.bytes.length : Int) - f.synced) && decide ((t.junk.length : Int) ≤ (f.bytes.length : Int) - f.synced - t.keep))
/-- the error of tears, the first ones -/
def tornE (pl : List PF) : List PTear → List ByteArray → Int
  | [], _ => 0
  | t :: l, seen => if mayN t.name then (match lookL pl t.name with
    | none => 20
    | some f => if seen.any (fun s => decide (s = t.name)) = true ∨ tearOk f t = false then 21 else tornE pl l (t.name :: seen)) else 6
def tornB (f : PF) (t : PTear) : List UInt8 := f.bytes.take (f.synced + t.keep.toNat) ++ t.junk
def crashF (ts : List PTear) (f : PF) : PF := match ts.find? (fun t => decide (t.name = f.name)) with
  | some t => ⟨f.name, tornB f t, (tornB f t).length⟩
  | none => ⟨f.name, f.bytes.take f.synced, (f.bytes.take f.synced).length⟩
def crashL (pl : List PF) (ts : List PTear) : List PF := if tornE pl ts [] = 0 then pl.map (crashF ts) else pl
/-- what is always so of a disk -/
structure PLOk (room : Int) (pl : List PF) : Prop where
  nodup : (pl.map (·.name)).Nodup
  may : ∀ f ∈ pl, mayN f.name = true
  sync : ∀ f ∈ pl, f.synced ≤ f.bytes.length
  used : (usedL pl : Int) ≤ room
  len : pl.length ≤ 64
  room : 0 ≤ room ∧ room ≤ 16777216
theorem PLOk.perm {room : Int} {pl pl' : List PF} (h : PLOk room pl) (p : pl.Perm pl') : PLOk room pl' :=
  ⟨(p.map _).nodup_iff.1 h.nodup, fun f hf => h.may f (p.mem_iff.2 hf), fun f hf => h.sync f (p.mem_iff.2 hf), by rw [usedL, ← (p.map _).sum_nat]; exact h.used, by rw [← p.length_eq]; exact h.len, h.room⟩
theorem hasL_iff {pl : List PF} {n : ByteArray} : hasL pl n = true ↔ ∃ f ∈ pl, f.name = n := by simp [hasL]
theorem hasL_false {pl : List PF} {n : ByteArray} (h : ∀ f ∈ pl, f.name ≠ n) : hasL pl n = false := by
  rw [Bool.eq_false_iff]; intro e; obtain ⟨f, hf, e⟩ := hasL_iff.1 e; exact h f hf e
theorem hasL_perm {pl pl' : List PF} {n : ByteArray} (p : pl.Perm pl') : hasL pl n = hasL pl' n := by
  rw [Bool.eq_iff_iff, hasL_iff, hasL_iff]
  exact ⟨fun ⟨f, h, e⟩ => ⟨f, p.mem_iff.1 h, e⟩, fun ⟨f, h, e⟩ => ⟨f, p.mem_iff.2 h, e⟩⟩
theorem usedL_perm {pl pl' : List PF} (p : pl.Perm pl') : usedL pl = usedL pl' := (p.map _).sum_nat
theorem usedL_mem {pl : List PF} {f : PF} (h : f ∈ pl) : f.bytes.length ≤ usedL pl := by
  induction pl with
  | nil => cases h
  | cons x l ih =>
    rw [usedL, List.map_cons, List.sum_cons]
    rcases List.mem_cons.1 h with rfl | h
    · omega
    · have := ih h; rw [usedL] at this; omega
theorem lookL_mem {pl : List PF} (hn : (pl.map (·.name)).Nodup) {f : PF} (h : f ∈ pl) : lookL pl f.name = some f := by
  induction pl with
  | nil => cases h
  | cons x l ih =>
    simp only [List.map_cons, List.nodup_cons] at hn
    rw [lookL, List.find?_cons]
    rcases List.mem_cons.1 h with rfl | h
    · simp
    · have : x.name ≠ f.name := fun e => hn.1 (e ▸ List.mem_map.2 ⟨f, h, rfl⟩)
      simp only [this, decide_false]
      exact ih hn.2 h
theorem lookL_some {pl : List PF} {n : ByteArray} {f : PF} (h : lookL pl n = some f) : f ∈ pl ∧ f.name = n := by
  have := List.find?_some h
  exact ⟨List.mem_of_find?_eq_some h, by simpa using this⟩
theorem lookL_none {pl : List PF} {n : ByteArray} (h : ∀ f ∈ pl, f.name ≠ n) : lookL pl n = none := by
  rw [lookL, List.find?_eq_none]; intro f hf; simpa using h f hf
theorem lookL_perm {pl pl' : List PF} (hn : (pl.map (·.name)).Nodup) (p : pl.Perm pl') (n : ByteArray) : lookL pl n = lookL pl' n := by
  cases h : lookL pl n with
  | none =>
    rw [lookL_none]
    intro f hf
    have := List.find?_eq_none.1 h f (p.mem_iff.2 hf)
    simpa using this
  | some f =>
    obtain ⟨h1, rfl⟩ := lookL_some h
    rw [lookL_mem ((p.map _).nodup_iff.1 hn) (p.mem_iff.1 h1)]
theorem appE_perm {room : Int} {pl pl' : List PF} (p : pl.Perm pl') (n : ByteArray) (b : List UInt8) : appE room pl n b = appE room pl' n b := by
  rw [appE, appE, hasL_perm p, usedL_perm p, p.length_eq]
theorem updL_perm {pl pl' : List PF} (p : pl.Perm pl') (n : ByteArray) (u : PF → PF) : (updL pl n u).Perm (updL pl' n u) := p.map _
theorem appL_perm {room : Int} {pl pl' : List PF} (p : pl.Perm pl') (n : ByteArray) (b : List UInt8) : (appL room pl n b).Perm (appL room pl' n b) := by
  rw [appL, appL, appE_perm p, hasL_perm p]
  split
  · split
    · exact updL_perm p n _
    · exact p.append_right _
  · exact p
theorem remL_perm {pl pl' : List PF} (p : pl.Perm pl') (n : ByteArray) : (remL pl n).Perm (remL pl' n) := p.filter _
theorem renL_perm {pl pl' : List PF} (hn : (pl.map (·.name)).Nodup) (p : pl.Perm pl') (n to : ByteArray) : (renL pl n to).Perm (renL pl' n to) := by
  have e : renE pl n to = renE pl' n to := by rw [renE, renE, hasL_perm p]
  rw [renL, renL, e, lookL_perm hn p]
  split
  · split
    · exact (remL_perm (remL_perm p n) to).append_right _
    · exact p
  · exact p
theorem tornE_perm {pl pl' : List PF} (hn : (pl.map (·.name)).Nodup) (p : pl.Perm pl') : ∀ (ts : List PTear) (s : List ByteArray), tornE pl ts s = tornE pl' ts s
  | [], _ => rfl
  | t :: l, s => by
    rw [tornE, tornE, lookL_perm hn p]
    split
    · split
      · rfl
      · split
        · rfl
        · exact tornE_perm hn p l _
    · rfl
theorem crashL_perm {pl pl' : List PF} (hn : (pl.map (·.name)).Nodup) (p : pl.Perm pl') (ts : List PTear) : (crashL pl ts).Perm (crashL pl' ts) := by
  rw [crashL, crashL, tornE_perm hn p]
  split
  · exact p.map _
  · exact p
theorem updL_split {l1 l2 : List PF} {f : PF} {u : PF → PF} (hn : ((l1 ++ f :: l2).map (·.name)).Nodup) : updL (l1 ++ f :: l2) f.name u = l1 ++ u f :: l2 := by
  simp only [List.map_append, List.map_cons] at hn
  have hd := List.nodup_append.1 hn
  have h1 : ∀ x ∈ l1, x.name ≠ f.name := fun x hx => hd.2.2 _ (List.mem_map.2 ⟨x, hx, rfl⟩) _ (by simp)
  have h2 : ∀ x ∈ l2, x.name ≠ f.name := fun x hx e => (List.nodup_cons.1 hd.2.1).1 (e ▸ List.mem_map.2 ⟨x, hx, rfl⟩)
  rw [updL, List.map_append, List.map_cons, if_pos rfl]
  congr 1
  · exact (List.map_congr_left fun x hx => if_neg (h1 x hx)).trans (List.map_id'' (fun _ => rfl) _)
  · congr 1
    exact (List.map_congr_left fun x hx => if_neg (h2 x hx)).trans (List.map_id'' (fun _ => rfl) _)
theorem remL_split {l1 l2 : List PF} {f : PF} (hn : ((l1 ++ f :: l2).map (·.name)).Nodup) : remL (l1 ++ f :: l2) f.name = l1 ++ l2 := by
  simp only [List.map_append, List.map_cons] at hn
  have hd := List.nodup_append.1 hn
  have h1 : ∀ x ∈ l1, x.name ≠ f.name := fun x hx => hd.2.2 _ (List.mem_map.2 ⟨x, hx, rfl⟩) _ (by simp)
  have h2 : ∀ x ∈ l2, x.name ≠ f.name := fun x hx e => (List.nodup_cons.1 hd.2.1).1 (e ▸ List.mem_map.2 ⟨x, hx, rfl⟩)
  rw [remL, List.filter_append, List.filter_cons, if_neg (by simp), List.filter_eq_self.2 (fun x hx => by simpa using h1 x hx), List.filter_eq_self.2 (fun x hx => by simpa using h2 x hx)]
theorem remL_none {pl : List PF} {n : ByteArray} (h : ∀ f ∈ pl, f.name ≠ n) : remL pl n = pl := List.filter_eq_self.2 fun x hx => by simpa using h x hx
/-! ### the files in memory -/
structure FileS where
  name : ByteArray
  blk : Nat
  a : Option Addr
  cap : Nat
  bytes : List UInt8
  synced : Nat
def FileS.p (f : FileS) : PF := ⟨f.name, f.bytes, f.synced⟩
def ent (f : FileS) : ByteArray × Value := (f.name, .pointer (some ⟨f.blk, 0, none⟩))
def ents (fs : List FileS) : List (ByteArray × Value) := fs.map ent
structure FileAt (w : World) (f : FileS) : Prop where
  blk : Blk w f.blk [.slice f.a f.bytes.length f.cap, .int .i64 ((f.synced : Nat) : Int)] 184
  own : OwnSl w 5 f.a f.cap f.bytes
  apart : ¬ Go.Proofs.YtnphndfbgdkgbaaGreatDoor.own f.a f.blk
def fileS (f : FileS) : Nat → Prop := fun q => q = f.blk ∨ own f.a q
def filesS (fs : List FileS) : Nat → Prop := fun q => ∃ f ∈ fs, fileS f q
structure FilesAt (w : World) (fs : List FileS) : Prop where
  all : ∀ f ∈ fs, FileAt w f
  apart : fs.Pairwise (fun f g => ∀ q, fileS f q → ¬ fileS g q)
def diskS (d m : Nat) (fs : List FileS) : Nat → Prop := fun q => q = d ∨ (q = m ∨ filesS fs q)
/-- a disk, opened -/
structure DiskO (w : World) (d m : Nat) (room : Int) (fs : List FileS) : Prop where
  blk : Blk w d [.map (some m), .int .i64 room] 152
  map : MapAt w m (ents fs)
  files : FilesAt w fs
  md : ¬ one m d
  fd : ¬ filesS fs d
  fm : ∀ q, filesS fs q → ¬ one m q
  ok : PLOk room (fs.map FileS.p)
/-- a disk: where its blocks lie, its room, its files in whatever order -/
def DiskAt (w : World) (d : Nat) (S : Nat → Prop) (room : Int) (pl : List PF) : Prop := ∃ m fs, S = diskS d m fs ∧ (fs.map FileS.p).Perm pl ∧ DiskO w d m room fs
section
variable {w w' : World} {S : Nat → Prop} {f : FileS} {fs l1 l2 : List FileS} {d m : Nat} {room : Int}
theorem FileAt.lt (h : FileAt w f) : ∀ q, fileS f q → q < w.heap.size := by
  rintro q (rfl | hq)
  · exact h.blk.lt
  · exact h.own.own_lt q hq
theorem FileAt.keepO (h : FileAt w f) (k : Keeps S w w') (hn : ∀ q, fileS f q → ¬ S q) : FileAt w' f :=
  ⟨h.blk.keep k (hn _ (.inl rfl)), h.own.keepO k (fun q hq => hn q (.inr hq)), h.apart⟩
theorem FilesAt.own_lt (h : FilesAt w fs) : ∀ q, filesS fs q → q < w.heap.size := fun q ⟨f, hf, hq⟩ => (h.all f hf).lt q hq
theorem FilesAt.keepO (h : FilesAt w fs) (k : Keeps S w w') (hn : ∀ q, filesS fs q → ¬ S q) : FilesAt w' fs :=
  ⟨fun f hf => (h.all f hf).keepO k (fun q hq => hn q ⟨f, hf, hq⟩), h.apart⟩
theorem FilesAt.ext (h : FilesAt w fs) (k : Ext w w') : FilesAt w' fs := h.keepO k fun _ _ => id
theorem FilesAt.nil (w : World) : FilesAt w [] := ⟨fun _ h => absurd h (by simp), List.Pairwise.nil⟩
theorem apart_symm (f g : FileS) : (∀ q, fileS f q → ¬ fileS g q) ↔ (∀ q, fileS g q → ¬ fileS f q) := ⟨fun h q a b => h q b a, fun h q a b => h q b a⟩
theorem FilesAt.perm (h : FilesAt w fs) {gs : List FileS} (p : fs.Perm gs) : FilesAt w gs :=
  ⟨fun f hf => h.all f (p.mem_iff.2 hf), (p.pairwise_iff (fun {a b} hab => (apart_symm a b).1 hab)).1 h.apart⟩
theorem FilesAt.open (h : FilesAt w (l1 ++ f :: l2)) : FileAt w f ∧ FilesAt w (l1 ++ l2) ∧ ∀ q, filesS (l1 ++ l2) q → ¬ fileS f q := by
  have h' := h.perm List.perm_middle
  obtain ⟨h1, h2⟩ := List.pairwise_cons.1 h'.apart
  exact ⟨h'.all f (by simp), ⟨fun g hg => h'.all g (List.mem_cons_of_mem _ hg), h2⟩, fun q ⟨g, hg, hq⟩ hf => h1 g hg q hf hq⟩
theorem FilesAt.close (h : FileAt w f) (h1 : FilesAt w (l1 ++ l2)) (h2 : ∀ q, filesS (l1 ++ l2) q → ¬ fileS f q) : FilesAt w (l1 ++ f :: l2) := by
  refine FilesAt.perm (fs := f :: (l1 ++ l2)) ⟨?_, List.pairwise_cons.2 ⟨fun g hg q hf hq => h2 q ⟨g, hg, hq⟩ hf, h1.apart⟩⟩ List.perm_middle.symm
  intro g hg
  rcases List.mem_cons.1 hg with rfl | hg
  · exact h
  · exact h1.all g hg
theorem filesS_mid {q : Nat} : filesS (l1 ++ f :: l2) q ↔ fileS f q ∨ filesS (l1 ++ l2) q := by
  simp only [filesS, List.mem_append, List.mem_cons]
  constructor
  · rintro ⟨g, h | rfl | h, hq⟩
    · exact .inr ⟨g, .inl h, hq⟩
    · exact .inl hq
    · exact .inr ⟨g, .inr h, hq⟩
  · rintro (hq | ⟨g, h | h, hq⟩)
    · exact ⟨f, .inr (.inl rfl), hq⟩
    · exact ⟨g, .inl h, hq⟩
    · exact ⟨g, .inr (.inr h), hq⟩
theorem files_case : ∀ q, filesS (l1 ++ f :: l2) q → q = f.blk ∨ (own f.a q ∨ filesS (l1 ++ l2) q) := fun q h => by
  rcases filesS_mid.1 h with (h | h) | h
  · exact .inl h
  · exact .inr (.inl h)
  · exact .inr (.inr h)
theorem disk_case {q : Nat} (h : diskS d m fs q) : q = d ∨ (one m q ∨ filesS fs q) := h
theorem DiskO.own_lt (h : DiskO w d m room fs) : ∀ q, diskS d m fs q → q < w.heap.size := by
  rintro q (rfl | rfl | hq)
  · exact h.blk.lt
  · exact h.map.lt
  · exact h.files.own_lt q hq
theorem DiskO.keepO (h : DiskO w d m room fs) (k : Keeps S w w') (hn : ∀ q, diskS d m fs q → ¬ S q) : DiskO w' d m room fs :=
  ⟨h.blk.keep k (hn _ (.inl rfl)), h.map.keep k (hn _ (.inr (.inl rfl))), h.files.keepO k (fun q hq => hn q (.inr (.inr hq))), h.md, h.fd, h.fm, h.ok⟩
theorem DiskO.ext (h : DiskO w d m room fs) (k : Ext w w') : DiskO w' d m room fs := h.keepO k fun _ _ => id
variable {F : Nat → Prop} {pl : List PF}
theorem DiskAt.own_lt (h : DiskAt w d F room pl) : ∀ q, F q → q < w.heap.size := by obtain ⟨m, fs, rfl, _, h⟩ := h; exact h.own_lt
theorem DiskAt.keepO (h : DiskAt w d F room pl) (k : Keeps S w w') (hn : ∀ q, F q → ¬ S q) : DiskAt w' d F room pl := by obtain ⟨m, fs, rfl, hp, h⟩ := h; exact ⟨m, fs, rfl, hp, h.keepO k hn⟩
theorem DiskAt.ext (h : DiskAt w d F room pl) (k : Ext w w') : DiskAt w' d F room pl := h.keepO k fun _ _ => id
theorem DiskAt.ok (h : DiskAt w d F room pl) : PLOk room pl := by obtain ⟨m, fs, rfl, hp, h⟩ := h; exact h.ok.perm hp
theorem DiskAt.perm (h : DiskAt w d F room pl) {pl' : List PF} (p : pl.Perm pl') : DiskAt w d F room pl' := by obtain ⟨m, fs, e, hp, h⟩ := h; exact ⟨m, fs, e, hp.trans p, h⟩
/-! ### the map's entries -/
theorem mget_none {ps : List (ByteArray × Value)} {n : ByteArray} (h : ∀ p ∈ ps, p.1 ≠ n) : mget ps n = none := by
  rw [mget, List.find?_eq_none.2 (fun p hp => by simpa using fun e => h p hp e.symm)]; rfl
theorem ents_none {n : ByteArray} (h : ∀ f ∈ fs, f.name ≠ n) : mget (ents fs) n = none := mget_none fun p hp => by
  obtain ⟨f, hf, rfl⟩ := List.mem_map.1 hp; exact h f hf
theorem mget_mid {ps qs : List (ByteArray × Value)} {n : ByteArray} {v : Value} (h : ((ps ++ (n, v) :: qs).map (·.1)).Nodup) : mget (ps ++ (n, v) :: qs) n = some v := by
  have h1 : ∀ p ∈ ps, p.1 ≠ n := fun p hp => by
    simp only [List.map_append, List.map_cons] at h
    exact (List.nodup_append.1 h).2.2 _ (List.mem_map.2 ⟨p, hp, rfl⟩) _ (by simp)
  rw [mget, List.find?_append, List.find?_eq_none.2 (fun p hp => by simpa using fun e => h1 p hp e.symm)]
  simp
theorem mfind_mid {n : ByteArray} {v : Value} {qs : List (ByteArray × Value)} : ∀ {ps : List (ByteArray × Value)} {i : Nat}, (∀ p ∈ ps, p.1 ≠ n) → mfind n (ps ++ (n, v) :: qs) i = some (i + ps.length, v)
  | [], i, _ => by simp [mfind]
  | p :: ps, i, h => by
    rw [List.cons_append, mfind, if_neg (fun e => h p (by simp) e.symm), mfind_mid (fun q hq => h q (by simp [hq]))]
    simp; omega
theorem mfind_no {n : ByteArray} : ∀ {ps : List (ByteArray × Value)} {i : Nat}, (∀ p ∈ ps, p.1 ≠ n) → mfind n ps i = none
  | [], _, _ => rfl
  | p :: ps, i, h => by rw [mfind, if_neg (fun e => h p (by simp) e.symm)]; exact mfind_no fun q hq => h q (by simp [hq])
theorem ents_keys (fs : List FileS) : (ents fs).map (·.1) = fs.map (·.name) := by simp [ents, ent]
theorem pl_keys (fs : List FileS) : (fs.map FileS.p).map (·.name) = fs.map (·.name) := by simp [FileS.p]
theorem mid_ne (h : ((l1 ++ f :: l2).map (·.name)).Nodup) : ∀ g ∈ l1 ++ l2, g.name ≠ f.name := by
  have := (List.perm_middle (a := f) (l₁ := l1) (l₂ := l2)).map (·.name)
  have h2 := this.nodup_iff.1 h
  intro g hg e
  rw [List.map_cons, List.nodup_cons] at h2
  exact h2.1 (e ▸ List.mem_map.2 ⟨g, hg, rfl⟩)
theorem ents_mid (h : ((l1 ++ f :: l2).map (·.name)).Nodup) : mget (ents (l1 ++ f :: l2)) f.name = some (.pointer (some ⟨f.blk, 0, none⟩)) := by
  have e : ents (l1 ++ f :: l2) = ents l1 ++ (f.name, .pointer (some ⟨f.blk, 0, none⟩)) :: ents l2 := by simp [ents, ent]
  rw [e]
  exact mget_mid (by rw [← e, ents_keys]; exact h)
theorem ents_look (hn : (fs.map (·.name)).Nodup) (n : ByteArray) : (mget (ents fs) n).getD (.pointer none) = .pointer ((fs.find? (fun f => decide (f.name = n))).map fun f => ⟨f.blk, 0, none⟩) := by
  cases h : fs.find? (fun f => decide (f.name = n)) with
  | none =>
    rw [ents_none (fun f hf => by have := List.find?_eq_none.1 h f hf; simpa using this)]; rfl
  | some f =>
    have h1 : f.name = n := by have := List.find?_some h; simpa using this
    obtain ⟨l1, l2, rfl⟩ := List.append_of_mem (List.mem_of_find?_eq_some h)
    subst h1
    rw [ents_mid hn]; rfl
theorem ents_mid' {n : ByteArray} (hn : (fs.map (·.name)).Nodup) (e : fs = l1 ++ f :: l2) (hf : f.name = n) : (mget (ents fs) n).getD (.pointer none) = .pointer (some ⟨f.blk, 0, none⟩) := by
  subst e; subst hf; rw [ents_mid hn]; rfl
theorem ents_none' {n : ByteArray} (h : ∀ f ∈ fs, f.name ≠ n) : (mget (ents fs) n).getD (.pointer none) = .pointer none := by rw [ents_none h]; rfl
theorem FilesAt.openE (h : FilesAt w fs) (e : fs = l1 ++ f :: l2) : FileAt w f ∧ FilesAt w (l1 ++ l2) ∧ ∀ q, filesS (l1 ++ l2) q → ¬ fileS f q := by subst e; exact h.open
theorem files_subB (e : fs = l1 ++ f :: l2) : filesS fs f.blk := by subst e; exact filesS_mid.2 (.inl (.inl rfl))
theorem files_subO (e : fs = l1 ++ f :: l2) : ∀ q, own f.a q → filesS fs q := by subst e; exact fun q h => filesS_mid.2 (.inl (.inr h))
theorem files_subR (e : fs = l1 ++ f :: l2) : ∀ q, filesS (l1 ++ l2) q → filesS fs q := by subst e; exact fun q h => filesS_mid.2 (.inr h)
theorem mem_mid (e : fs = l1 ++ f :: l2) : f ∈ fs := by subst e; simp
theorem DiskO.names (h : PLOk room (fs.map FileS.p)) : (fs.map (·.name)).Nodup := by have := h.nodup; rwa [pl_keys] at this
theorem PLOk.lens (h : PLOk room (fs.map FileS.p)) : ∀ f ∈ fs, f.synced ≤ f.bytes.length ∧ f.bytes.length ≤ 16777216 := fun f hf => by
  have h1 := h.sync f.p (List.mem_map.2 ⟨f, hf, rfl⟩)
  have h2 := usedL_mem (f := f.p) (List.mem_map.2 ⟨f, hf, rfl⟩)
  have h3 := h.used
  have h4 := h.room
  have h5 : f.p.bytes = f.bytes := rfl
  rw [h5] at h2
  exact ⟨h1, by omega⟩
theorem ents_get {rs : List FileS} {j : Nat} {a : ByteArray} {v : Value} (h : (ents rs)[j]? = some (a, v)) : ∃ f, rs[j]? = some f ∧ a = f.name ∧ v = .pointer (some ⟨f.blk, 0, none⟩) := by
  rw [ents, List.getElem?_map, Option.map_eq_some_iff] at h
  obtain ⟨f, hf, e⟩ := h
  simp only [ent, Prod.mk.injEq] at e
  exact ⟨f, hf, e.1.symm, e.2.symm⟩
theorem ents_erase (rs : List FileS) (j : Nat) : (ents rs).eraseIdx j = ents (rs.eraseIdx j) := (map_eraseI _ _ _).symm
theorem ents_put_new {n : ByteArray} (h : ∀ f ∈ fs, f.name ≠ n) (b : Nat) (a : Option Addr) (c : Nat) (bs : List UInt8) (s : Nat) : mput (ents fs) n (.pointer (some ⟨b, 0, none⟩)) = ents (fs ++ [⟨n, b, a, c, bs, s⟩]) := by
  rw [mput, mfind_no (fun p hp => by obtain ⟨f, hf, rfl⟩ := List.mem_map.1 hp; exact h f hf)]
  simp [ents, ent]
theorem ents_del (h : ((l1 ++ f :: l2).map (·.name)).Nodup) : mdel (ents (l1 ++ f :: l2)) f.name = ents (l1 ++ l2) := by
  have e : ents (l1 ++ f :: l2) = ents l1 ++ (f.name, .pointer (some ⟨f.blk, 0, none⟩)) :: ents l2 := by simp [ents, ent]
  have hne : ∀ p ∈ ents l1, p.1 ≠ f.name := fun p hp => by obtain ⟨g, hg, rfl⟩ := List.mem_map.1 hp; exact mid_ne h g (by simp [hg])
  rw [e, mdel, mfind_mid hne]
  simp only [Nat.zero_add]
  rw [List.eraseIdx_append_of_length_le (Nat.le_refl _)]
  simp [ents]
theorem ents_put_old (h : ((l1 ++ f :: l2).map (·.name)).Nodup) (b : Nat) (f' : FileS) (hf : f'.name = f.name) (hb : f'.blk = b) : mput (ents (l1 ++ f :: l2)) f.name (.pointer (some ⟨b, 0, none⟩)) = ents (l1 ++ f' :: l2) := by
  have e : ents (l1 ++ f :: l2) = ents l1 ++ (f.name, .pointer (some ⟨f.blk, 0, none⟩)) :: ents l2 := by simp [ents, ent]
  have hne : ∀ p ∈ ents l1, p.1 ≠ f.name := fun p hp => by obtain ⟨g, hg, rfl⟩ := List.mem_map.1 hp; exact mid_ne h g (by simp [hg])
  rw [e, mput, mfind_mid hne]
  simp only [Nat.zero_add]
  rw [List.set_append_right _ _ (Nat.le_refl _)]
  simp [ents, ent, hf, hb]
end




end Go.Proofs.YtnphndfbgdkgbaaGreatDoor
