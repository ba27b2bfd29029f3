/-
  Layer 2: what is told of a disk as a whole.
-/
import Derived.Test.YtnphndfbgdkgbaaGreatDoorRows
import Derived.Test.YtnphndfbgdkgbaaGreatDoorDf
import Derived.Test.YtnphndfbgdkgbaaGreatDoorStr
namespace Go.Proofs.YtnphndfbgdkgbaaGreatDoor
attribute [local irreducible] St1 RL RA RT RT1 Run

theorem ret_mono {P : Program} {f : FuncId} {args : Array Value} {w : World} {Φ Ψ : Value → World → Prop} (h : Calls P f args w (Ret Φ)) (hh : ∀ v w', Φ v w' → Ψ v w') : Calls P f args w (Ret Ψ) :=
  h.mono fun _ _ ⟨v, e, hv⟩ => ⟨v, e, hh v _ hv⟩
/-- a call that writes a disk: its error, the files behind it -/
def DStep (d : Nat) (F : Nat → Prop) (room : Int) (w : World) (E : Int) (L : List PF) : Value → World → Prop := fun v w' => ∃ F', v = .int .i64 E ∧ DiskAt w' d F' room L ∧ MovedS w F F' ∧ Keeps F w w'
theorem dstep_of {w w' : World} {d m : Nat} {room : Int} {fs : List FileS} {E E' : Int} {L L' : List PF} {v : Value}
    (h : ∃ fs', v = .int .i64 E ∧ DiskO w' d m room fs' ∧ (fs'.map FileS.p).Perm L ∧ (∀ q, diskS d m fs' q → q < w.heap.size → diskS d m fs q) ∧ Keeps (diskS d m fs) w w') (e : E = E') (p : L.Perm L') : DStep d (diskS d m fs) room w E' L' v w' := by
  obtain ⟨fs', rfl, h1, h2, h3, h4⟩ := h
  subst e
  exact ⟨_, rfl, ⟨m, fs', rfl, h2.trans p, h1⟩, movedS_of h3, h4⟩
theorem dstep_eq {w w' : World} {d m : Nat} {room : Int} {fs : List FileS} {E E' : Int} {L L' : List PF} {v : Value}
    (h : ∃ fs', v = .int .i64 E ∧ DiskO w' d m room fs' ∧ fs'.map FileS.p = L ∧ (∀ q, diskS d m fs' q → q < w.heap.size → diskS d m fs q) ∧ Keeps (diskS d m fs) w w') (e : E = E') (p : L.Perm L') : DStep d (diskS d m fs) room w E' L' v w' := by
  obtain ⟨fs', h0, h1, h2, h3⟩ := h
  exact dstep_of ⟨fs', h0, h1, h2 ▸ List.Perm.refl _, h3⟩ e p
theorem lookE_perm {pl pl' : List PF} (p : pl.Perm pl') (n : ByteArray) : lookE pl n = lookE pl' n := by rw [lookE, lookE, hasL_perm p]
theorem renE_perm {pl pl' : List PF} (p : pl.Perm pl') (n to : ByteArray) : renE pl n to = renE pl' n to := by rw [renE, renE, hasL_perm p]
def readB (pl : List PF) (n : ByteArray) : List UInt8 := ((lookL pl n).map (·.bytes)).getD []
def sizeB (pl : List PF) (n : ByteArray) : Nat := ((lookL pl n).map (·.bytes.length)).getD 0
def syncB (pl : List PF) (n : ByteArray) : Nat := ((lookL pl n).map (·.synced)).getD 0
section
variable {w : World} {d : Nat} {F : Nat → Prop} {room : Int} {pl : List PF}
theorem appendDw (h : DiskAt w d F room pl) (name : ByteArray) (a : Option Addr) (b : List UInt8) (c : Nat) (hs : name.size ≤ 4294967295) (hsl : SlOf w a b) (hdis : ∀ x, a = some x → b ≠ [] → ¬ F x.block) (hbl : b.length ≤ 4294967295) :
    Calls Tryz.prog 69 #[.pointer (some ⟨d, 0, none⟩), .string name, .slice a b.length c] w (Ret (DStep d F room w (appE room pl name b) (appL room pl name b))) := by
  obtain ⟨m, fs, rfl, hp, hO⟩ := h
  exact ret_mono (append_ d m room fs name a b c w hO hs hsl hdis hbl) fun v w' h => dstep_eq h (appE_perm hp name b) (appL_perm hp name b)
theorem appendD (h : DiskAt w d F room pl) (name : ByteArray) (a : Option Addr) (b : List UInt8) (c : Nat) (hs : name.size ≤ 4294967295) (hsl : SlOf w a b) (hdis : ∀ x, a = some x → ¬ F x.block) (hbl : b.length ≤ 4294967295) :
    Calls Tryz.prog 69 #[.pointer (some ⟨d, 0, none⟩), .string name, .slice a b.length c] w (Ret (DStep d F room w (appE room pl name b) (appL room pl name b))) :=
  appendDw h name a b c hs hsl (fun x hx _ => hdis x hx) hbl
theorem syncD (h : DiskAt w d F room pl) (name : ByteArray) (hs : name.size ≤ 4294967295) : Calls Tryz.prog 67 #[.pointer (some ⟨d, 0, none⟩), .string name] w (Ret (DStep d F room w (lookE pl name) (syncL pl name))) := by
  obtain ⟨m, fs, rfl, hp, hO⟩ := h
  exact ret_mono (sync_ d m room fs name w hO hs) fun v w' h => dstep_eq h (lookE_perm hp name) (updL_perm hp name _)
theorem renameD (h : DiskAt w d F room pl) (name to : ByteArray) (hs : name.size ≤ 4294967295) (hs2 : to.size ≤ 4294967295) : Calls Tryz.prog 126 #[.pointer (some ⟨d, 0, none⟩), .string name, .string to] w (Ret (DStep d F room w (renE pl name to) (renL pl name to))) := by
  obtain ⟨m, fs, rfl, hp, hO⟩ := h
  exact ret_mono (rename_ d m room fs name to w hO hs hs2) fun v w' h => dstep_of h (renE_perm hp name to) (renL_perm hO.ok.nodup hp name to)
theorem removeD (h : DiskAt w d F room pl) (name : ByteArray) (hs : name.size ≤ 4294967295) : Calls Tryz.prog 85 #[.pointer (some ⟨d, 0, none⟩), .string name] w (Ret (DStep d F room w (lookE pl name) (remL pl name))) := by
  obtain ⟨m, fs, rfl, hp, hO⟩ := h
  exact ret_mono (remove_ d m room fs name w hO hs) fun v w' h => dstep_eq h (lookE_perm hp name) (remL_perm hp name)
theorem readD (h : DiskAt w d F room pl) (name : ByteArray) (hs : name.size ≤ 4294967295) : Calls Tryz.prog 184 #[.pointer (some ⟨d, 0, none⟩), .string name] w
    (Ret fun v w' => ∃ a' c', v = .tuple #[.slice a' (readB pl name).length c', .int .i64 (lookE pl name)] ∧ OwnSl w' 5 a' c' (readB pl name) ∧ (∀ b, own a' b → w.heap.size ≤ b) ∧ Ext w w') := by
  obtain ⟨m, fs, rfl, hp, hO⟩ := h
  refine ret_mono (read_ d m room fs name w hO hs) fun v w' h => ?_
  obtain ⟨a', c', bs, rfl, h1, h2, h3, h4⟩ := h
  have e : bs = readB pl name := by rw [h3, readB, lookL_perm hO.ok.nodup hp]
  subst e
  exact ⟨a', c', by rw [lookE_perm hp], h1, h2, h4⟩
theorem sizeD (h : DiskAt w d F room pl) (name : ByteArray) (hs : name.size ≤ 4294967295) : Calls Tryz.prog 65 #[.pointer (some ⟨d, 0, none⟩), .string name] w
    (Ret fun v w' => v = .tuple #[.int .i64 ((sizeB pl name : Nat) : Int), .int .i64 ((syncB pl name : Nat) : Int), .int .i64 (lookE pl name)] ∧ Ext w w') := by
  obtain ⟨m, fs, rfl, hp, hO⟩ := h
  refine ret_mono (size_ d m room fs name w hO hs) fun v w' h => ?_
  obtain ⟨rfl, h⟩ := h
  exact ⟨by rw [lookE_perm hp, lookL_perm hO.ok.nodup hp]; rfl, h⟩
theorem usedD (h : DiskAt w d F room pl) : Calls Tryz.prog 120 #[.pointer (some ⟨d, 0, none⟩)] w (Ret fun v w' => v = .int .i64 ((usedL pl : Nat) : Int) ∧ Ext w w') := by
  obtain ⟨m, fs, rfl, hp, hO⟩ := h
  refine ret_mono (used_ d m room fs w hO) fun v w' h => ?_
  exact ⟨by rw [h.1, usedL_perm hp], h.2⟩
end
theorem newD (room : Int) (w : World) : Calls Tryz.prog 48 #[.int .i64 room] w (Ret fun v w' => (¬ (0 ≤ room ∧ room ≤ 16777216) ∧ v = .tuple #[.pointer none, .int .i64 1] ∧ Ext w w') ∨
    ((0 ≤ room ∧ room ≤ 16777216) ∧ ∃ d F, v = .tuple #[.pointer (some ⟨d, 0, none⟩), .int .i64 0] ∧ DiskAt w' d F room [] ∧ (∀ q, F q → w.heap.size ≤ q) ∧ Ext w w')) := by
  refine ret_mono (new_ room w) fun v w' h => ?_
  rcases h with h | ⟨h1, d, m, h2, h3, h4, h5⟩
  · exact .inl h
  · exact .inr ⟨h1, d, _, h2, ⟨m, [], rfl, List.Perm.refl _, h3⟩, h4, h5⟩
theorem dcast {d : Nat} {F : Nat → Prop} {room : Int} {w : World} {E E' : Int} {L L' : List PF} {f : FuncId} {args : Array Value} (h : Calls Tryz.prog f args w (Ret (DStep d F room w E L))) (e : E = E') (p : L = L') : Calls Tryz.prog f args w (Ret (DStep d F room w E' L')) := by subst e; subst p; exact h
/-! ### calls of a script -/
structure DoP where
  op : Int
  name : ByteArray
  other : ByteArray
  bytes : List UInt8
  tears : List PTear
def opc (n : Int) : Int := (IntKind.u64.wrap n).tmod 8
/-- the files behind a call -/
def stepL (room : Int) (pl : List PF) (p : DoP) : List PF :=
  if opc p.op = 0 ∨ opc p.op = 1 ∨ opc p.op = 2 then appL room pl p.name p.bytes else if opc p.op = 3 then syncL pl p.name else if opc p.op = 4 then renL pl p.name p.other else if opc p.op = 5 then remL pl p.name else if opc p.op = 6 then crashL pl p.tears else []
structure DoC where
  op : Int
  name : ByteArray
  other : ByteArray
  bytes : SH
  tears : SH
instance : Enc DoC := Enc.struct (fun t => [.int .i64 t.op, .string t.name, .string t.other, .slice t.bytes.a t.bytes.len t.bytes.cap, .slice t.tears.a t.tears.len t.tears.cap]) 5 (fun _ => rfl) (fun _ v hv => by simp at hv; rcases hv with rfl | rfl | rfl | rfl | rfl <;> rfl) (by decide)
structure DoAt (w : World) (o : DoC) (b : List UInt8) (pts : List PTear) : Prop where
  bl : o.bytes.len = b.length
  bs : SlOf w o.bytes.a b
  ts : ∃ ts : List TearC, o.tears.len = ts.length ∧ SlOf w o.tears.a ts ∧ TearsAt w ts pts
  size : o.name.size ≤ 4294967295 ∧ o.other.size ≤ 4294967295 ∧ b.length ≤ 4294967295 ∧ pts.length ≤ 4294967295
theorem DoAt.ext {w w' : World} {o : DoC} {b : List UInt8} {pts : List PTear} (h : DoAt w o b pts) (k : Ext w w') : DoAt w' o b pts :=
  ⟨h.bl, h.bs.ext k, by obtain ⟨ts, h1, h2, h3⟩ := h.ts; exact ⟨ts, h1, h2.ext k, h3.ext k⟩, h.size⟩
/-- calls, as they are handed in, and plain -/
structure DosAt (w : World) (l : List DoC) (ps : List DoP) : Prop where
  len : l.length = ps.length
  all : ∀ (i : Nat) (o : DoC) (p : DoP), l[i]? = some o → ps[i]? = some p → ∃ b pts, p = ⟨o.op, o.name, o.other, b, pts⟩ ∧ DoAt w o b pts
theorem DosAt.ext {w w' : World} {l : List DoC} {ps : List DoP} (h : DosAt w l ps) (k : Ext w w') : DosAt w' l ps :=
  ⟨h.len, fun i o p h1 h2 => by obtain ⟨b, pts, e, h3⟩ := h.all i o p h1 h2; exact ⟨b, pts, e, h3.ext k⟩⟩
def runL (room : Int) (pl : List PF) (ps : List DoP) : List PF := ps.foldl (stepL room) pl
theorem runL_snoc {room : Int} {pl : List PF} {ps : List DoP} {i : Nat} {p : DoP} (h : ps[i]? = some p) : runL room pl (ps.take (i + 1)) = stepL room (runL room pl (ps.take i)) p := by rw [take_snoc h, runL, List.foldl_append]; rfl

theorem prefix_eq {xs ys : List UInt8} : (decide (((ys.length : Nat) : Int) ≤ ((xs.length : Nat) : Int)) && decide (xs.take ys.length = ys)) = decide (xs.take ys.length = ys) := by
  by_cases h : xs.take ys.length = ys
  · have : ys.length ≤ xs.length := by have := congrArg List.length h; rw [List.length_take] at this; omega
    simp [h, this]
  · simp [h]




end Go.Proofs.YtnphndfbgdkgbaaGreatDoor
