/-
  Layer 7: read.
-/
import Derived.Test.YtnphndfbgdkgbaaGreatDoorRows
import Derived.Test.YtnphndfbgdkgbaaGreatDoorYc
namespace Go.Proofs.YtnphndfbgdkgbaaGreatDoor
attribute [local irreducible] St1 RL RA RT RT1 Run
attribute [local irreducible] crcN crcL crcS crcB numL leL unfR nameS segsL sortZ segI segO hasP restP

/-- a record behind records; an empty one is a mark -/
def stepB (acc : List (List UInt8)) (p : List UInt8) : List (List UInt8) := if p = [] then [] else acc ++ [p]
def stepH (acc : List RB) (r : RB) : List RB := if r.b = [] then [] else acc ++ [r]
theorem stepH_map : ∀ (ss : List RB) (rs : List RB), (ss.foldl stepH rs).map RB.b = (ss.map RB.b).foldl stepB (rs.map RB.b)
  | [], _ => rfl
  | r :: ss, rs => by
    rw [List.foldl_cons, List.map_cons, List.foldl_cons, stepH_map ss]
    congr 1
    rw [stepH, stepB]
    split
    · rfl
    · rw [List.map_append]; rfl
theorem stepH_mem : ∀ (ss : List RB) (rs : List RB), ∀ r ∈ ss.foldl stepH rs, r ∈ rs ++ ss
  | [], rs, r, h => by simpa using h
  | x :: ss, rs, r, h => by
    rw [List.foldl_cons] at h
    have := stepH_mem ss _ r h
    rcases List.mem_append.1 this with h2 | h2
    · rw [stepH] at h2
      split at h2
      · cases h2
      · rcases List.mem_append.1 h2 with h3 | h3
        · exact List.mem_append_left _ h3
        · simp only [List.mem_singleton] at h3; subst h3; simp
    · simp [h2]
theorem stepH_snoc {ss rs : List RB} {j : Nat} {r : RB} (h : ss[j]? = some r) : (ss.take (j + 1)).foldl stepH rs = stepH ((ss.take j).foldl stepH rs) r := by
  obtain ⟨hj, rfl⟩ := List.getElem?_eq_some_iff.1 h
  rw [List.take_succ_eq_append_getElem hj, List.foldl_append]; rfl
theorem stepH_len : ∀ (ss : List RB) (rs : List RB), (ss.foldl stepH rs).length ≤ rs.length + ss.length
  | [], rs => Nat.le_refl _
  | r :: ss, rs => by
    rw [List.foldl_cons]
    have := stepH_len ss (stepH rs r)
    have h2 : (stepH rs r).length ≤ rs.length + 1 := by rw [stepH]; split <;> simp
    simp only [List.length_cons]; omega
def readP (room : Int) (pl : List PF) : List Int → List (List UInt8) → Int × List (List UInt8) × List PF
  | [], acc => (0, acc, pl)
  | n :: r, acc =>
    if (framesR (readB pl (nameS n))).2 = [] then readP room pl r ((framesR (readB pl (nameS n))).1.foldl stepB acc)
    else if (cutP room pl ((readB pl (nameS n)).take ((readB pl (nameS n)).length - (framesR (readB pl (nameS n))).2.length)) n r).1 = 0
      then (0, (framesR (readB pl (nameS n))).1.foldl stepB acc, (cutP room pl ((readB pl (nameS n)).take ((readB pl (nameS n)).length - (framesR (readB pl (nameS n))).2.length)) n r).2)
      else ((cutP room pl ((readB pl (nameS n)).take ((readB pl (nameS n)).length - (framesR (readB pl (nameS n))).2.length)) n r).1, [], (cutP room pl ((readB pl (nameS n)).take ((readB pl (nameS n)).length - (framesR (readB pl (nameS n))).2.length)) n r).2)
section
variable {room : Int} {pl : List PF} {l : List Int} {i : Nat} {n : Int} {acc : List (List UInt8)}
theorem readP_go (h : l[i]? = some n) (h2 : (framesR (readB pl (nameS n))).2 = []) : readP room pl (l.drop i) acc = readP room pl (l.drop (i + 1)) ((framesR (readB pl (nameS n))).1.foldl stepB acc) := by rw [drop_at h, readP, if_pos h2]
theorem readP_cut (h : l[i]? = some n) (h2 : (framesR (readB pl (nameS n))).2 ≠ []) (h3 : (cutP room pl ((readB pl (nameS n)).take ((readB pl (nameS n)).length - (framesR (readB pl (nameS n))).2.length)) n (l.drop (i + 1))).1 = 0) :
    readP room pl (l.drop i) acc = (0, (framesR (readB pl (nameS n))).1.foldl stepB acc, (cutP room pl ((readB pl (nameS n)).take ((readB pl (nameS n)).length - (framesR (readB pl (nameS n))).2.length)) n (l.drop (i + 1))).2) := by rw [drop_at h, readP, if_neg h2, if_pos h3]
theorem readP_bad (h : l[i]? = some n) (h2 : (framesR (readB pl (nameS n))).2 ≠ []) (h3 : (cutP room pl ((readB pl (nameS n)).take ((readB pl (nameS n)).length - (framesR (readB pl (nameS n))).2.length)) n (l.drop (i + 1))).1 ≠ 0) :
    readP room pl (l.drop i) acc = ((cutP room pl ((readB pl (nameS n)).take ((readB pl (nameS n)).length - (framesR (readB pl (nameS n))).2.length)) n (l.drop (i + 1))).1, [], (cutP room pl ((readB pl (nameS n)).take ((readB pl (nameS n)).length - (framesR (readB pl (nameS n))).2.length)) n (l.drop (i + 1))).2) := by rw [drop_at h, readP, if_neg h2, if_neg h3]
theorem readB_le (h : PLOk room pl) (s : ByteArray) : (readB pl s).length ≤ 16777216 := by
  have e : (readB pl s).length = sizeB pl s := by rw [readB, sizeB]; cases lookL pl s <;> rfl
  rw [e]; exact sizeB_le h s
end
theorem take_full (xs : List UInt8) (n : Nat) (h : n = 0) : xs.length - n = xs.length := by omega

theorem readD0 {w : World} {d : Nat} {F : Nat → Prop} {room : Int} {pl : List PF} (h : DiskAt w d F room pl) (name : ByteArray) (hs : name.size ≤ 4294967295) (he : lookE pl name = 0) : Calls Tryz.prog 184 #[.pointer (some ⟨d, 0, none⟩), .string name] w
    (Ret fun v w' => ∃ a' c', v = .tuple #[.slice a' (readB pl name).length c', .int .i64 0] ∧ OwnSl w' 5 a' c' (readB pl name) ∧ (∀ b, own a' b → w.heap.size ≤ b) ∧ Ext w w') := he ▸ readD h name hs

theorem en184 : Enters Tryz.prog 184 := enters_of Tryz.func184 rfl (by kernel_rfl)
theorem en185 : Enters Tryz.prog 185 := enters_of Tryz.func185 rfl (by kernel_rfl)
theorem en186 : Enters Tryz.prog 186 := enters_of Tryz.func186 rfl (by kernel_rfl)

set_option maxRecDepth 100000 in
set_option maxHeartbeats 4000000 in
theorem read__ (b d : Nat) (F : Nat → Prop) (room : Int) (pl : List PF) (w : World) (hb : Blk w b [.pointer (some ⟨d, 0, none⟩)] 122) (hD : DiskAt w d F room pl) (hbd : ¬ F b) (hL : LaidOk w) (hFG : ∀ q, F q → 7 ≤ q) :
    Calls Tryz.prog 134 #[.pointer (some ⟨b, 0, none⟩)] w (Ret (fun v w' => ∃ F', DiskAt w' d F' room (readP room pl (segsL pl) []).2.2 ∧ MovedS w F F' ∧ Keeps F w w' ∧ (((readP room pl (segsL pl) []).1 = 0 ∧ ∃ a' c', ∃ rs : List RB, v = .tuple #[.slice a' (rs.map RB.h).length c', .int .i64 0] ∧  OwnSl w' 74 a' c' (rs.map RB.h) ∧ RecsO w' rs ∧ rs.map RB.b = (readP room pl (segsL pl) []).2.1 ∧ (∀ q, own a' q → w.heap.size ≤ q) ∧ (∀ q, recsS rs q → w.heap.size ≤ q) ∧ (∀ q, own a' q → ¬ recsS rs q) ∧ (∀ q, own a' q → ¬ F' q) ∧ (∀ q, recsS rs q → ¬ F' q)) ∨ ((readP room pl (segsL pl) []).1 ≠ 0 ∧ v = .tuple #[.slice none 0 0, .int .i64 (readP room pl (segsL pl) []).1])))) := by
  have hLs := hL.size
  have hok := hD.ok
  have hlen := hok.len
  have hsl := segsL_len pl
  refine calls_run (n := 71) Tryz.func134 rfl rfl rfl ?_
  refine Run.seq ?_
  refine Run.region ?_
  refine RL.val (x_assignSl rfl) ?_
  refine RL.val (x_assignI rfl) ?_
  refine RL.nil ?_
  refine Run.scope ?_
  refine Run.seq ?_
  refine Run.region ?_
  refine RL.val (x_assignSl rfl) ?_
  refine RL.nil ?_
  have hR : RecsO w ([] : List RB) := RecsO.nil w
  refine Run.seq ?_
  refine Run.region ?_
  refine RL.val (x_moveP rfl) ?_
  refine RL.st rfl <| St1.call (vals := [.pointer (some ⟨b, 0, none⟩)]) en116 rfl (segs_ _ _ _ _ _ _ hb hD hbd hL) ?_
  rintro _ w_3 ⟨a_1, c_2, rfl, ho_4, hg_5, K_6⟩
  have pr_7 : ¬ own a_1 b := notNew hg_5 hb.lt
  have pr_8 : ∀ q_, own a_1 q_ → ¬ F q_ := apartNew hg_5 hD.own_lt
  have pr_9 : ∀ q_, own a_1 q_ → ¬ recsS ([] : List RB) q_ := apartNew hg_5 hR.own_lt
  have pg_10 : ∀ q_, own a_1 q_ → q_ < w.heap.size → F q_ := fun q_ h hlt => absurd (Nat.le_trans (Nat.le_refl _) (hg_5 q_ h)) (by omega)
  have pw_11 : ∀ q_, own a_1 q_ → w.heap.size ≤ q_ := fun q_ h => Nat.le_trans (Nat.le_refl _) (hg_5 q_ h)
  clear hg_5
  replace hb := hb.ext K_6
  replace hD := hD.ext K_6
  replace hL := hL.ext K_6
  replace hR := hR.ext K_6
  have K0 := (K_6 : Ext w _).to (S := F)
  refine RL.val (x_assignSl rfl) ?_
  refine RL.nil ?_
  refine Run.seq ?_
  refine Run.label ?_
  refine Run.seq ?_
  refine Run.seq ?_
  refine Run.region ?_
  refine RL.val (x_moveSl rfl) ?_
  refine RL.val (x_lenSl Tryz.underlying130 rfl) ?_
  refine RL.val (x_moveI rfl) ?_
  refine RL.nil ?_
  refine Run.block ?_
  refine Run.loop (ι := Nat) (fun i ρ' w' => ∃ rs : List RB, ∃ ao : Option Addr, ∃ co : Nat, Holds ρ' [(0, .pointer (some ⟨b, 0, none⟩)), (4, .slice (ao) ((rs.map RB.h).length) (co)), (5, .slice (a_1) ((segsL pl).length) (c_2)), (16, .slice (a_1) ((segsL pl).length) (c_2)), (17, .int .i64 ((((segsL pl).length : Nat) : Int))), (18, .int .i64 (((i : Nat) : Int)))] ∧ Keeps F w w' ∧ (Blk w' b [.pointer (some ⟨d, 0, none⟩)] 122) ∧ (LaidOk w') ∧ (DiskAt w' d F room pl) ∧ (OwnSl w' 3 (a_1) (c_2) (segsL pl)) ∧ (RecsO w' (rs)) ∧ (OwnSl w' 74 ao co (rs.map RB.h)) ∧ (¬ recsS (rs) b) ∧ (∀ q_, recsS (rs) q_ → ¬ F q_) ∧ (∀ q_, recsS (rs) q_ → ¬ own a_1 q_) ∧ (∀ q_, recsS (rs) q_ → ¬ own ao q_) ∧ (∀ q_, recsS (rs) q_ → q_ < w.heap.size → F q_) ∧ (¬ own ao b) ∧ (∀ q_, own ao q_ → ¬ F q_) ∧ (∀ q_, own ao q_ → ¬ own a_1 q_) ∧ (∀ q_, own ao q_ → q_ < w.heap.size → F q_) ∧ (∀ q_, recsS (rs) q_ → w.heap.size ≤ q_) ∧ (∀ q_, own ao q_ → w.heap.size ≤ q_) ∧ (i ≤ (segsL pl).length) ∧ (rs.length ≤ i * 16777216) ∧ (readP room pl (segsL pl) [] = readP room pl ((segsL pl).drop i) (rs.map RB.b))) (fun i => (segsL pl).length - i) 0 ?_ ?_
  · have ho_27 := OwnSl.nil (α := SH) w_3 74
    refine ⟨[], _, _, ⟨rfl, rfl, rfl, rfl, rfl, rfl, trivial⟩, K0, hb, hL, hD, ho_4, hR, ho_27, (fun ⟨_, h_, _⟩ => absurd h_ (by simp)), (fun q_ ⟨_, h_, _⟩ _ => absurd h_ (by simp)), (fun q_ h1 h2 => pr_9 q_ h2 h1), (fun q_ h1 h2 => (fun q_ h1 _ => own_none q_ h1) q_ h2 h1), (fun q_ ⟨_, h_, _⟩ _ => absurd h_ (by simp)), (own_none b), (fun q_ h1 _ => own_none q_ h1), (fun q_ h1 _ => own_none q_ h1), (fun q_ h1 _ => absurd h1 (own_none q_)), (fun q_ ⟨_, h_, _⟩ => absurd h_ (by simp)), (fun q_ h1 => absurd h1 (own_none q_)), ?_, ?_, ?_⟩
    · omega
    · exact Nat.le_refl _
    · rfl
  clear hb hD hR ho_4
  clear K0
  rintro i ρ_28 w_12 ⟨rs, ao, co, hH_13, K0, hb, hL, hD, ho_4, hO_14, ho_15, pr_16, pr_17, pr_18, pr_19, pr_20, pr_21, pr_22, pr_23, pr_24, pr_25, pr_26, hi, hrl, hRP⟩ ih1
  obtain ⟨ρ₀, rfl⟩ := hH_13.ex
  clear hH_13
  refine Run.seq ?_
  refine Run.region ?_
  refine RL.val (x_ltI rfl rfl) ?_
  refine RL.nil ?_
  refine Run.seq ?_
  refine Run.cond rfl (fun hc19 => ?_) (fun hc19 => ?_)
  · try simp only [br] at hc19
    refine Run.skip ?_
    refine Run.seq ?_
    refine Run.block ?_
    refine Run.seq ?_
    refine Run.region ?_
    refine RL.val (x_moveI rfl) ?_
    obtain ⟨b_29, o_30, n, hn, ha_31, hc_32⟩ := ho_4.sl.el (i := i) (by first | omega | (simp only [List.length_set]; omega))
    refine RL.val (x_idxN Tryz.underlying130 ty3 rfl rfl ha_31 (by first | omega | (simp only [List.length_set]; omega))) ?_
    refine RL.val (x_ldV (v := .int .i64 (n)) (y := n) ty3 rfl hc_32 rfl) ?_
    refine RL.val (x_assignI rfl) ?_
    refine RL.val (x_assignI rfl) ?_
    refine RL.nil ?_
    refine Run.seq ?_
    have hnm := nameS_may n
    have hbl := readB_le hok (nameS n)
    refine Run.drawT [] (m := 12) (by kernel_rfl) rfl ?_
    intro w_35 K_36
    replace hb := hb.ext K_36
    replace hL := hL.ext K_36
    replace hD := hD.ext K_36
    replace ho_4 := ho_4.ext K_36
    replace hO_14 := hO_14.ext K_36
    replace ho_15 := ho_15.ext K_36
    replace K0 := K0.ext K_36
    refine ⟨fun w' => Blk w' b [.pointer (some ⟨d, 0, none⟩)] 122 ∧ True, ?_⟩
    refine RT.takeP (v := .pointer (some ⟨b, 0, none⟩)) 0 rfl (by kernel_rfl) (.inr ⟨hb, trivial⟩) (fun _ => (x_moveP rfl)) ?_
    refine RT.takeP (v := .pointer (some ⟨b, 0, none⟩)) 1 rfl (by kernel_rfl) (.inr ⟨hb, trivial⟩) (fun _ => (x_nilCheck rfl)) ?_
    refine RT.takeP (v := .pointer (some ⟨b, 0, none⟩)) 2 rfl (by kernel_rfl) (.inr ⟨hb, trivial⟩) (fun _ => (x_fld (o' := 0) Tryz.underlying120 rfl ty62 rfl rfl rfl)) ?_
    refine RT.take (v := .pointer (some ⟨d, 0, none⟩)) 3 rfl (by kernel_rfl) ⟨hb, trivial⟩ (by rintro _ ⟨hb, -⟩; exact (x_ld (v := .pointer (some ⟨d, 0, none⟩)) ty62 rfl rfl (hb.cl.field (i := 0) rfl))) ?_
    refine RT.takeP (v := .int .i64 (n)) 4 rfl (by kernel_rfl) (.inr ⟨hb, trivial⟩) (fun _ => (x_moveI rfl)) ?_
    refine RT.st 5 rfl (by kernel_rfl) rfl <| St1.call (vals := [.int .i64 (n)]) en66 rfl (segName_ n _ hL) ?_
    rintro _ w_37 ⟨rfl, K_38⟩
    replace hb := hb.ext K_38
    replace hL := hL.ext K_38
    replace hD := hD.ext K_38
    replace ho_4 := ho_4.ext K_38
    replace hO_14 := hO_14.ext K_38
    replace ho_15 := ho_15.ext K_38
    replace K0 := K0.ext K_38
    refine ⟨.inr ⟨hb, trivial⟩, ?_⟩
    refine RT.st 6 rfl (by kernel_rfl) rfl <| St1.call (vals := [.pointer (some ⟨d, 0, none⟩), .string (nameS n)]) en184 rfl (readD0 hD (nameS n) (by first | omega | decide) (seg_look (List.mem_of_getElem? hn))) ?_
    rintro _ w_41 ⟨a_39, c_40, rfl, ho_42, hg_43, K_44⟩
    have pr_45 : ¬ own a_39 b := notNew hg_43 hb.lt
    have pr_46 : ∀ q_, own a_39 q_ → ¬ F q_ := apartNew hg_43 hD.own_lt
    have pr_47 : ∀ q_, own a_39 q_ → ¬ own a_1 q_ := apartNew hg_43 ho_4.own_lt
    have pr_48 : ∀ q_, own a_39 q_ → ¬ recsS (rs) q_ := apartNew hg_43 hO_14.own_lt
    have pr_49 : ∀ q_, own a_39 q_ → ¬ own ao q_ := apartNew hg_43 ho_15.own_lt
    have pg_50 : ∀ q_, own a_39 q_ → q_ < w.heap.size → F q_ := fun q_ h hlt => absurd (Nat.le_trans K0.size (hg_43 q_ h)) (by omega)
    have pw_51 : ∀ q_, own a_39 q_ → w.heap.size ≤ q_ := fun q_ h => Nat.le_trans K0.size (hg_43 q_ h)
    clear hg_43
    replace hb := hb.ext K_44
    replace hL := hL.ext K_44
    replace hD := hD.ext K_44
    replace ho_4 := ho_4.ext K_44
    replace hO_14 := hO_14.ext K_44
    replace ho_15 := ho_15.ext K_44
    replace K0 := K0.ext K_44
    refine ⟨.inr ⟨hb, trivial⟩, ?_⟩
    refine RT.takeP (v := .tuple #[.slice (a_39) ((readB pl (nameS n)).length) (c_40), .int .i64 (0)]) 7 rfl (by kernel_rfl) (.inr ⟨hb, trivial⟩) (fun _ => (x_moveT rfl)) ?_
    refine RT.takeP (v := .slice (a_39) ((readB pl (nameS n)).length) (c_40)) 8 rfl (by kernel_rfl) (.inr ⟨hb, trivial⟩) (fun _ => (x_extract rfl rfl)) ?_
    refine RT.takeP (v := .int .i64 (0)) 9 rfl (by kernel_rfl) (.inr ⟨hb, trivial⟩) (fun _ => (x_extract rfl rfl)) ?_
    refine RT.takeP (v := .slice (a_39) ((readB pl (nameS n)).length) (c_40)) 10 rfl (by kernel_rfl) (.inr ⟨hb, trivial⟩) (fun _ => (x_assignSl rfl)) ?_
    refine RT.takeP (v := .int .i64 (0)) 11 rfl (by kernel_rfl) (.inr ⟨hb, trivial⟩) (fun _ => (x_assignI rfl)) ?_
    refine RT.done (by kernel_rfl) ?_
    refine Run.seq ?_
    refine Run.seq ?_
    refine Run.region ?_
    refine RL.val (x_moveI rfl) ?_
    refine RL.val (litF (x_neI rfl rfl) (by decide)) ?_
    refine RL.nil ?_
    refine Run.condF rfl ?_
    refine Run.skip ?_
    refine Run.seq ?_
    refine Run.region ?_
    refine RL.val (x_moveSl rfl) ?_
    refine RL.st rfl <| St1.call (vals := [.slice (a_39) ((readB pl (nameS n)).length) (c_40)]) en185 rfl (frames_ _ _ _ _ (OwnSl.slo ho_42) (by omega)) ?_
    rintro _ w_54 ⟨a_52, c_53, ss, rfl, ho_55, hQ_56, hms_57, hg_58, hg_59, hap_60, K_61⟩
    have pr_62 : ¬ own a_52 b := notNew hg_58 hb.lt
    have pr_63 : ∀ q_, own a_52 q_ → ¬ F q_ := apartNew hg_58 hD.own_lt
    have pr_64 : ∀ q_, own a_52 q_ → ¬ own a_1 q_ := apartNew hg_58 ho_4.own_lt
    have pr_65 : ∀ q_, own a_52 q_ → ¬ recsS (rs) q_ := apartNew hg_58 hO_14.own_lt
    have pr_66 : ∀ q_, own a_52 q_ → ¬ own ao q_ := apartNew hg_58 ho_15.own_lt
    have pr_67 : ∀ q_, own a_52 q_ → ¬ own a_39 q_ := apartNew hg_58 ho_42.own_lt
    have pg_68 : ∀ q_, own a_52 q_ → q_ < w.heap.size → F q_ := fun q_ h hlt => absurd (Nat.le_trans K0.size (hg_58 q_ h)) (by omega)
    have pw_69 : ∀ q_, own a_52 q_ → w.heap.size ≤ q_ := fun q_ h => Nat.le_trans K0.size (hg_58 q_ h)
    have pr_70 : ¬ recsS ss b := notNew hg_59 hb.lt
    have pr_71 : ∀ q_, recsS ss q_ → ¬ F q_ := apartNew hg_59 hD.own_lt
    have pr_72 : ∀ q_, recsS ss q_ → ¬ own a_1 q_ := apartNew hg_59 ho_4.own_lt
    have pr_73 : ∀ q_, recsS ss q_ → ¬ recsS (rs) q_ := apartNew hg_59 hO_14.own_lt
    have pr_74 : ∀ q_, recsS ss q_ → ¬ own ao q_ := apartNew hg_59 ho_15.own_lt
    have pr_75 : ∀ q_, recsS ss q_ → ¬ own a_39 q_ := apartNew hg_59 ho_42.own_lt
    have pg_76 : ∀ q_, recsS ss q_ → q_ < w.heap.size → F q_ := fun q_ h hlt => absurd (Nat.le_trans K0.size (hg_59 q_ h)) (by omega)
    have pw_77 : ∀ q_, recsS ss q_ → w.heap.size ≤ q_ := fun q_ h => Nat.le_trans K0.size (hg_59 q_ h)
    replace hb := hb.ext K_61
    replace hL := hL.ext K_61
    replace hD := hD.ext K_61
    replace ho_4 := ho_4.ext K_61
    replace hO_14 := hO_14.ext K_61
    replace ho_15 := ho_15.ext K_61
    replace ho_42 := ho_42.ext K_61
    replace K0 := K0.ext K_61
    have hmsX := hms_57
    refine RL.val (x_moveT rfl) ?_
    refine RL.val (x_extract rfl rfl) ?_
    refine RL.val (x_extract rfl rfl) ?_
    refine RL.val (x_assignSl rfl) ?_
    refine RL.val (x_assignI rfl) ?_
    refine RL.nil ?_
    have hJ : RecsO w_54 (rs ++ ss) := RecsO.app hO_14 hQ_56
    have pr_78 : ¬ recsS (rs ++ ss) b := fun x_ => (recs_case _ x_).elim pr_16 (fun y_ => pr_70 y_)
    have pr_79 : ∀ q_, recsS (rs ++ ss) q_ → ¬ F q_ := fun q_ x_ z_ => (recs_case _ x_).elim (fun y_ => pr_17 q_ y_ z_) (fun y_ => (fun y_ => pr_71 q_ y_ z_) y_)
    have pr_80 : ∀ q_, recsS (rs ++ ss) q_ → ¬ own a_1 q_ := fun q_ x_ z_ => (recs_case _ x_).elim (fun y_ => pr_18 q_ y_ z_) (fun y_ => (fun y_ => pr_72 q_ y_ z_) y_)
    have pr_81 : ∀ q_, recsS (rs ++ ss) q_ → ¬ own ao q_ := fun q_ x_ z_ => (recs_case _ x_).elim (fun y_ => pr_19 q_ y_ z_) (fun y_ => (fun y_ => pr_74 q_ y_ z_) y_)
    have pr_82 : ∀ q_, recsS (rs ++ ss) q_ → ¬ own a_39 q_ := fun q_ x_ z_ => (recs_case _ x_).elim (fun y_ => (fun q_ h1 h2 => pr_48 q_ h2 h1) q_ y_ z_) (fun y_ => (fun y_ => pr_75 q_ y_ z_) y_)
    have pr_83 : ∀ q_, recsS (rs ++ ss) q_ → ¬ own a_52 q_ := fun q_ x_ z_ => (recs_case _ x_).elim (fun y_ => (fun q_ h1 h2 => pr_65 q_ h2 h1) q_ y_ z_) (fun y_ => (fun y_ => (fun q_ h1 h2 => hap_60 q_ h2 h1) q_ y_ z_) y_)
    have pg_84 : ∀ q_, recsS (rs ++ ss) q_ → q_ < w.heap.size → F q_ := fun q_ x_ hl_ => (recs_case _ x_).elim (fun y_ => pr_20 q_ y_ hl_) (fun y_ => (fun y_ => pg_76 q_ y_ hl_) y_)
    have pw_85 : ∀ q_, recsS (rs ++ ss) q_ → w.heap.size ≤ q_ := fun q_ x_ => (recs_case _ x_).elim (fun y_ => pr_25 q_ y_) (fun y_ => (fun y_ => pw_77 q_ y_) y_)
    have hrsl : (rs.map RB.h).length = rs.length := List.length_map ..
    have hssl : (ss.map RB.h).length = ss.length := List.length_map ..
    have hfl := framesR_len (readB pl (nameS n))
    have hssm : ss.length = (framesR (readB pl (nameS n))).1.length := by rw [← hmsX, List.length_map]
    refine Run.seq ?_
    refine Run.seq ?_
    refine Run.region ?_
    refine RL.val (x_moveSl rfl) ?_
    refine RL.val (x_lenSl Tryz.underlying91 rfl) ?_
    refine RL.val (x_moveI rfl) ?_
    refine RL.nil ?_
    refine Run.block ?_
    refine Run.loop (ι := Nat) (fun j ρ' w' => ∃ aj : Option Addr, ∃ cj : Nat, Holds ρ' [(0, .pointer (some ⟨b, 0, none⟩)), (4, .slice (aj) (((List.foldl stepH rs (ss.take j)).map RB.h).length) (cj)), (5, .slice (a_1) ((segsL pl).length) (c_2)), (6, .int .i64 (((i : Nat) : Int))), (8, .slice (a_39) ((readB pl (nameS n)).length) (c_40)), (11, .int .i64 ((((readB pl (nameS n)).length - (framesR (readB pl (nameS n))).2.length : Nat) : Int))), (16, .slice (a_1) ((segsL pl).length) (c_2)), (17, .int .i64 ((((segsL pl).length : Nat) : Int))), (18, .int .i64 (((i : Nat) : Int))), (19, .bool (decide (((i : Nat) : Int) < (((segsL pl).length : Nat) : Int)))), (41, .slice (a_52) ((ss.map RB.h).length) (c_53)), (42, .int .i64 ((((ss.map RB.h).length : Nat) : Int))), (43, .int .i64 (((j : Nat) : Int)))] ∧ Keeps F w w' ∧ (Blk w' b [.pointer (some ⟨d, 0, none⟩)] 122) ∧ (LaidOk w') ∧ (DiskAt w' d F room pl) ∧ (OwnSl w' 3 (a_1) (c_2) (segsL pl)) ∧ (OwnSl w' 5 (a_39) (c_40) (readB pl (nameS n))) ∧ (OwnSl w' 74 (a_52) (c_53) (ss.map RB.h)) ∧ (RecsO w' (rs ++ ss)) ∧ (OwnSl w' 74 aj cj ((List.foldl stepH rs (ss.take j)).map RB.h)) ∧ (¬ own aj b) ∧ (∀ q_, own aj q_ → ¬ F q_) ∧ (∀ q_, own aj q_ → ¬ own a_1 q_) ∧ (∀ q_, own aj q_ → ¬ own a_39 q_) ∧ (∀ q_, own aj q_ → ¬ own a_52 q_) ∧ (∀ q_, own aj q_ → ¬ recsS (rs ++ ss) q_) ∧ (∀ q_, own aj q_ → q_ < w.heap.size → F q_) ∧ (∀ q_, own aj q_ → w.heap.size ≤ q_) ∧ (j ≤ ss.length)) (fun j => ss.length - j) 0 ?_ ?_
    · refine ⟨_, _, ⟨rfl, rfl, rfl, rfl, rfl, rfl, rfl, rfl, rfl, rfl, rfl, rfl, rfl, trivial⟩, K0, hb, hL, hD, ho_4, ho_42, ho_55, hJ, ho_15, pr_21, pr_22, pr_23, (fun q_ h1 h2 => pr_49 q_ h2 h1), (fun q_ h1 h2 => pr_66 q_ h2 h1), (fun q_ h1 h2 => pr_81 q_ h2 h1), pr_24, pr_26, ?_⟩
      · omega
    clear hb hD ho_4 ho_15 ho_42 ho_55 hJ
    clear K0
    rintro j ρ_97 w_86 ⟨aj, cj, hH_87, K0, hb, hL, hD, ho_4, ho_42, ho_55, hJ, ho_88, pr_89, pr_90, pr_91, pr_92, pr_93, pr_94, pr_95, pr_96, hj⟩ ih2
    obtain ⟨ρ₀, rfl⟩ := hH_87.ex
    clear hH_87
    refine Run.seq ?_
    refine Run.region ?_
    refine RL.val (x_ltI rfl rfl) ?_
    refine RL.nil ?_
    refine Run.seq ?_
    refine Run.cond rfl (fun hc44 => ?_) (fun hc44 => ?_)
    · try simp only [br] at hc44
      refine Run.skip ?_
      refine Run.seq ?_
      refine Run.block ?_
      refine Run.seq ?_
      refine Run.region ?_
      obtain ⟨b_98, o_99, hh_, hh, ha_100, hc_101⟩ := ho_55.sl.el (i := j) (by first | omega | (simp only [List.length_set]; omega))
      refine RL.val (x_idxN Tryz.underlying91 ty74 rfl rfl ha_100 (by first | omega | (simp only [List.length_set]; omega))) ?_
      refine RL.val (x_ldV (v := .slice (hh_.a) (hh_.len) (hh_.cap)) (y := hh_) ty74 rfl hc_101 rfl) ?_
      refine RL.val (x_assignSl rfl) ?_
      refine RL.nil ?_
      obtain ⟨r, hr, hre, hro⟩ := recs_at (rs := ss) (w := w_86) (RecsO.sub hJ (fun r hr => List.mem_append_right _ hr)) hh
      subst hre
      have hrl_ : r.h.len = r.b.length := rfl
      refine Run.seq ?_
      refine Run.seq ?_
      refine Run.region ?_
      refine RL.val (x_moveSl rfl) ?_
      refine RL.val (x_lenSl Tryz.underlying74 rfl) ?_
      refine RL.val (x_eqI rfl rfl) ?_
      refine RL.nil ?_
      refine Run.cond rfl (fun hc49 => ?_) (fun hc49 => ?_)
      · try simp only [br] at hc49
        refine Run.seq ?_
        refine Run.region ?_
        refine RL.val (x_assignSl rfl) ?_
        refine RL.nil ?_
        refine Run.exit rfl ?_
        refine Run.region ?_
        refine RL.val (litI (c := ((j + 1 : Nat) : Int)) (x_add rfl rfl (by omega) (by omega)) rfl) ?_
        refine RL.val (x_moveI rfl) ?_
        refine RL.nil ?_
        have e := (stepH_snoc (rs := rs) hr).trans (if_pos (show r.b = [] from List.eq_nil_of_length_eq_zero (by omega)))
        refine ih2 (j + 1) _ _ ?_ (by omega)
        rw [e]
        have ho_104 := OwnSl.nil (α := SH) w_86 74
        refine ⟨_, _, ⟨rfl, rfl, rfl, rfl, rfl, rfl, rfl, rfl, rfl, rfl, rfl, rfl, rfl, trivial⟩, K0, hb, hL, hD, ho_4, ho_42, ho_55, hJ, ho_104, (own_none b), (fun q_ h1 _ => own_none q_ h1), (fun q_ h1 _ => own_none q_ h1), (fun q_ h1 _ => own_none q_ h1), (fun q_ h1 _ => own_none q_ h1), (fun q_ h1 _ => own_none q_ h1), (fun q_ h1 _ => absurd h1 (own_none q_)), (fun q_ h1 => absurd h1 (own_none q_)), ?_⟩
        · omega
      · try simp only [br] at hc49
        refine Run.skip ?_
        have hfln : (List.foldl stepH rs (ss.take j)).length ≤ rs.length + j := by have := stepH_len (ss.take j) rs; rw [List.length_take] at this; omega
        refine Run.region ?_
        refine RL.val (x_moveSl rfl) ?_
        refine RL.val (x_moveSl rfl) ?_
        refine RL.st rfl <| St1.buildSlice ([⟨r.a, r.b.length, r.c⟩] : List SH) Tryz.underlying91 ty74 rfl rfl (by first | decide | (simp [Enc.size])) ?_
        intro b_105 w_106 hl_109 ho_108 K_107
        have pr_110 : ¬ own (some ⟨b_105, 0, none⟩) b := notNew (ge_new hl_109) hb.lt
        have pr_111 : ∀ q_, own (some ⟨b_105, 0, none⟩) q_ → ¬ F q_ := apartNew (ge_new hl_109) hD.own_lt
        have pr_112 : ∀ q_, own (some ⟨b_105, 0, none⟩) q_ → ¬ own a_1 q_ := apartNew (ge_new hl_109) ho_4.own_lt
        have pr_113 : ∀ q_, own (some ⟨b_105, 0, none⟩) q_ → ¬ own a_39 q_ := apartNew (ge_new hl_109) ho_42.own_lt
        have pr_114 : ∀ q_, own (some ⟨b_105, 0, none⟩) q_ → ¬ own a_52 q_ := apartNew (ge_new hl_109) ho_55.own_lt
        have pr_115 : ∀ q_, own (some ⟨b_105, 0, none⟩) q_ → ¬ recsS (rs ++ ss) q_ := apartNew (ge_new hl_109) hJ.own_lt
        have pr_116 : ∀ q_, own (some ⟨b_105, 0, none⟩) q_ → ¬ own aj q_ := apartNew (ge_new hl_109) ho_88.own_lt
        have pg_117 : ∀ q_, own (some ⟨b_105, 0, none⟩) q_ → q_ < w.heap.size → F q_ := fun q_ h hlt => absurd (Nat.le_trans K0.size ((ge_new hl_109) q_ h)) (by omega)
        have pw_118 : ∀ q_, own (some ⟨b_105, 0, none⟩) q_ → w.heap.size ≤ q_ := fun q_ h => Nat.le_trans K0.size ((ge_new hl_109) q_ h)
        clear hl_109
        replace hb := hb.ext K_107
        replace hL := hL.ext K_107
        replace hD := hD.ext K_107
        replace ho_4 := ho_4.ext K_107
        replace ho_42 := ho_42.ext K_107
        replace ho_55 := ho_55.ext K_107
        replace hJ := hJ.ext K_107
        replace ho_88 := ho_88.ext K_107
        replace K0 := K0.ext K_107
        refine RL.st rfl <| St1.append (xs := (List.foldl stepH rs (ss.take j)).map RB.h) (ys := ([⟨r.a, r.b.length, r.c⟩] : List SH)) Tryz.underlying91 ty74 rfl rfl rfl ho_88 ho_108.sl (by rw [List.length_map]; simp only [List.length_cons, List.length_nil]; omega) (by decide) ?_
        intro a_119 c_120 w_121 ho_122 K_123 hm_124 hrm_125
        have pr_126 : ¬ own a_119 b := hm_124.not pr_89 hb.lt
        have pr_127 : ∀ q_, own a_119 q_ → ¬ F q_ := hm_124.apart pr_90 hD.own_lt
        have pr_128 : ∀ q_, own a_119 q_ → ¬ own a_1 q_ := hm_124.apart pr_91 ho_4.own_lt
        have pr_129 : ∀ q_, own a_119 q_ → ¬ own a_39 q_ := hm_124.apart pr_92 ho_42.own_lt
        have pr_130 : ∀ q_, own a_119 q_ → ¬ own a_52 q_ := hm_124.apart pr_93 ho_55.own_lt
        have pr_131 : ∀ q_, own a_119 q_ → ¬ recsS (rs ++ ss) q_ := hm_124.apart pr_94 hJ.own_lt
        have pr_132 : ∀ q_, own a_119 q_ → ¬ own (some ⟨b_105, 0, none⟩) q_ := hm_124.apart (fun q_ h1 h2 => pr_116 q_ h2 h1) ho_108.own_lt
        have pg_133 : ∀ q_, own a_119 q_ → q_ < w.heap.size → F q_ := hm_124.inS pr_95 K0.size
        have pw_134 : ∀ q_, own a_119 q_ → w.heap.size ≤ q_ := hm_124.ge pr_96 K0.size
        replace hb := hb.keep K_123 pr_89
        replace hL := hL.keep K_123 (fun q_ hq_ => Nat.le_trans hLs (pr_96 q_ hq_))
        replace hD := hD.keepO K_123 (fun q_ h1 h2 => pr_90 q_ h2 h1)
        replace ho_4 := ho_4.keepO K_123 (fun q_ h1 h2 => pr_91 q_ h2 h1)
        replace ho_42 := ho_42.keepO K_123 (fun q_ h1 h2 => pr_92 q_ h2 h1)
        replace ho_55 := ho_55.keepO K_123 (fun q_ h1 h2 => pr_93 q_ h2 h1)
        replace hJ := hJ.keepO K_123 (fun q_ h1 h2 => pr_94 q_ h2 h1)
        replace ho_108 := ho_108.keepO K_123 pr_116
        replace K0 := K0.trans K_123 (fun x hlt hx => pr_95 x hx hlt)
        clear hm_124
        clear hrm_125
        refine RL.val (x_assignSl rfl) ?_
        refine RL.nil ?_
        have eRR : ((List.foldl stepH rs (ss.take j)).map RB.h) ++ ([⟨r.a, r.b.length, r.c⟩] : List SH) = (List.foldl stepH rs (ss.take (j + 1))).map RB.h := by rw [stepH_snoc hr, stepH, if_neg (ne_of_len (by omega)), List.map_append]; rfl
        rw [eRR] at ho_122 ⊢
        refine Run.inBlock ?_
        refine Run.region ?_
        refine RL.val (litI (c := ((j + 1 : Nat) : Int)) (x_add rfl rfl (by omega) (by omega)) rfl) ?_
        refine RL.val (x_moveI rfl) ?_
        refine RL.nil ?_
        refine ih2 (j + 1) _ _ ?_ (by omega)
        refine ⟨_, _, ⟨rfl, rfl, rfl, rfl, rfl, rfl, rfl, rfl, rfl, rfl, rfl, rfl, rfl, trivial⟩, K0, hb, hL, hD, ho_4, ho_42, ho_55, hJ, ho_122, pr_126, pr_127, pr_128, pr_129, pr_130, pr_131, pg_133, pw_134, ?_⟩
        · omega
    · try simp only [br] at hc44
      refine Run.exit rfl ?_
      refine Run.seq ?_
      have hje : j = ss.length := by omega
      subst hje
      rw [List.take_length] at ho_88
      have hR2 : RecsO w_86 (List.foldl stepH rs ss) := RecsO.sub hJ (stepH_mem ss rs)
      have hRB : (List.foldl stepH rs ss).map RB.b = (framesR (readB pl (nameS n))).1.foldl stepB (rs.map RB.b) := by rw [stepH_map, hmsX]
      have hfl2 := stepH_len ss rs
      rw [show ((List.foldl stepH rs (ss.take ss.length)).map RB.h).length = ((List.foldl stepH rs ss).map RB.h).length by rw [List.take_length]]
      have pr_135 : ¬ recsS (List.foldl stepH rs ss) b := fun x_ => pr_78 (recs_sub (stepH_mem ss rs) _ x_)
      have pr_136 : ∀ q_, recsS (List.foldl stepH rs ss) q_ → ¬ F q_ := fun q_ x_ z_ => (fun y_ => pr_79 q_ y_ z_) (recs_sub (stepH_mem ss rs) _ x_)
      have pr_137 : ∀ q_, recsS (List.foldl stepH rs ss) q_ → ¬ own a_1 q_ := fun q_ x_ z_ => (fun y_ => pr_80 q_ y_ z_) (recs_sub (stepH_mem ss rs) _ x_)
      have pr_138 : ∀ q_, recsS (List.foldl stepH rs ss) q_ → ¬ own a_39 q_ := fun q_ x_ z_ => (fun y_ => pr_82 q_ y_ z_) (recs_sub (stepH_mem ss rs) _ x_)
      have pr_139 : ∀ q_, recsS (List.foldl stepH rs ss) q_ → ¬ own a_52 q_ := fun q_ x_ z_ => (fun y_ => pr_83 q_ y_ z_) (recs_sub (stepH_mem ss rs) _ x_)
      have pr_140 : ∀ q_, recsS (List.foldl stepH rs ss) q_ → ¬ own aj q_ := fun q_ x_ z_ => (fun y_ => (fun q_ h1 h2 => pr_94 q_ h2 h1) q_ y_ z_) (recs_sub (stepH_mem ss rs) _ x_)
      have pg_141 : ∀ q_, recsS (List.foldl stepH rs ss) q_ → q_ < w.heap.size → F q_ := fun q_ x_ hl_ => (fun y_ => pg_84 q_ y_ hl_) (recs_sub (stepH_mem ss rs) _ x_)
      have pw_142 : ∀ q_, recsS (List.foldl stepH rs ss) q_ → w.heap.size ≤ q_ := fun q_ x_ => (fun y_ => pw_85 q_ y_) (recs_sub (stepH_mem ss rs) _ x_)
      refine Run.region ?_
      refine RL.val (x_moveI rfl) ?_
      refine RL.val (x_moveSl rfl) ?_
      refine RL.val (x_lenSl Tryz.underlying74 rfl) ?_
      refine RL.val (x_ltI rfl rfl) ?_
      refine RL.nil ?_
      refine Run.cond rfl (fun hc58 => ?_) (fun hc58 => ?_)
      · try simp only [br] at hc58
        refine Run.seq ?_
        have hcapb := ho_42.le_cap
        refine Run.region ?_
        refine RL.val (x_moveP rfl) ?_
        refine RL.val (x_moveSl rfl) ?_
        refine RL.val (x_moveI rfl) ?_
        refine RL.val (litSl (m' := ((readB pl (nameS n)).take ((readB pl (nameS n)).length - (framesR (readB pl (nameS n))).2.length)).length) (x_sliceTo Tryz.underlying74 ty5 rfl rfl (by omega)) (by rw [List.length_take]; omega)) ?_
        refine RL.val (x_moveSl rfl) ?_
        refine RL.val (x_moveI rfl) ?_
        have hall : ∀ m ∈ segsL pl, hasL pl (nameS m) = true := fun m hm => (segsL_mem.1 hm).2.2
        refine RL.st rfl <| St1.call (vals := [.pointer (some ⟨b, 0, none⟩), .slice (a_39) (((readB pl (nameS n)).take ((readB pl (nameS n)).length - (framesR (readB pl (nameS n))).2.length)).length) (c_40), .slice (a_1) ((segsL pl).length) (c_2), .int .i64 (((i : Nat) : Int))]) en186 rfl (cut__ _ _ _ _ _ _ ((readB pl (nameS n)).take ((readB pl (nameS n)).length - (framesR (readB pl (nameS n))).2.length)) _ _ (segsL pl) _ i n _ hb hD hbd hL hFG (ho_42.sl.take ((readB pl (nameS n)).length - (framesR (readB pl (nameS n))).2.length)) (fun x_ hx_ => pr_46 _ ⟨x_, hx_, rfl⟩) (by rw [List.length_take]; omega) ho_4.sl (fun x_ hx_ => pr_8 _ ⟨x_, hx_, rfl⟩) (by omega) (segs_ok hok) hall hn) ?_
        rintro _ w_144 ⟨F_143, rfl, hD_145, hm_146, K_147⟩
        have pr_148 : ¬ F_143 b := hm_146.not hbd hb.lt
        have pr_149 : ∀ q_, F_143 q_ → ¬ own a_1 q_ := hm_146.apart (fun q_ h1 h2 => pr_8 q_ h2 h1) ho_4.own_lt
        have pr_150 : ∀ q_, F_143 q_ → ¬ own a_39 q_ := hm_146.apart (fun q_ h1 h2 => pr_46 q_ h2 h1) ho_42.own_lt
        have pr_151 : ∀ q_, F_143 q_ → ¬ own a_52 q_ := hm_146.apart (fun q_ h1 h2 => pr_63 q_ h2 h1) ho_55.own_lt
        have pr_152 : ∀ q_, F_143 q_ → ¬ own aj q_ := hm_146.apart (fun q_ h1 h2 => pr_90 q_ h2 h1) ho_88.own_lt
        have pr_153 : ∀ q_, F_143 q_ → ¬ recsS (List.foldl stepH rs ss) q_ := hm_146.apart (fun q_ h1 h2 => pr_136 q_ h2 h1) hR2.own_lt
        have pg_154 : ∀ q_, F_143 q_ → q_ < w.heap.size → F q_ := hm_146.inS (fun q_ h_ _ => h_) K0.size
        have pG_155 : ∀ q_, F_143 q_ → 7 ≤ q_ := fun q_ h_ => (hm_146 q_ h_).elim (hFG q_) (fun h2_ => Nat.le_trans hLs (Nat.le_trans K0.size h2_))
        replace hb := hb.keep K_147 hbd
        replace hL := hL.keep K_147 hFG
        replace ho_4 := ho_4.keepO K_147 pr_8
        replace ho_42 := ho_42.keepO K_147 pr_46
        replace ho_55 := ho_55.keepO K_147 pr_63
        replace ho_88 := ho_88.keepO K_147 pr_90
        replace hR2 := hR2.keepO K_147 pr_136
        replace K0 := K0.trans K_147 (fun x hlt hx => (fun q_ h_ _ => h_) x hx hlt)
        clear hm_146
        have hfne : (framesR (readB pl (nameS n))).2 ≠ [] := ne_of_len (by omega)
        refine RL.val (x_assignI rfl) ?_
        refine RL.nil ?_
        refine Run.seq ?_
        refine Run.seq ?_
        refine Run.region ?_
        refine RL.val (x_moveI rfl) ?_
        refine RL.val (x_neI rfl rfl) ?_
        refine RL.nil ?_
        refine Run.cond rfl (fun hc67 => ?_) (fun hc67 => ?_)
        · try simp only [br] at hc67
          refine Run.seq ?_
          refine Run.region ?_
          refine RL.val (x_moveI rfl) ?_
          refine RL.val (x_assignSl rfl) ?_
          refine RL.val (x_assignI rfl) ?_
          refine RL.nil ?_
          refine Run.ret2 (v := .slice (none) (0) (0)) (x := .int .i64 ((cutP room pl ((readB pl (nameS n)).take ((readB pl (nameS n)).length - (framesR (readB pl (nameS n))).2.length)) n ((segsL pl).drop (i + 1))).1)) Tryz.func134 rfl rfl rfl ?_
          have hEq := hRP.trans (readP_bad hn hfne hc67)
          rw [hEq]
          exact ⟨_, rfl, F_143, hD_145, movedS_foot pg_154, K0, .inr ⟨hc67, rfl⟩⟩
        · try simp only [br] at hc67
          refine Run.skip ?_
          refine Run.exit rfl ?_
          refine Run.seq ?_
          refine Run.region ?_
          refine RL.val (x_moveSl rfl) ?_
          refine RL.val (x_assignSl rfl) ?_
          refine RL.val (x_assignI rfl) ?_
          refine RL.nil ?_
          refine Run.ret2 (v := .slice (aj) (((List.foldl stepH rs ss).map RB.h).length) (cj)) (x := .int .i64 (0)) Tryz.func134 rfl rfl rfl ?_
          have hEq := hRP.trans (readP_cut hn hfne hc67)
          rw [hEq]
          exact ⟨_, rfl, F_143, hD_145, movedS_foot pg_154, K0, .inl ⟨rfl, aj, cj, _, rfl, ho_88, hR2, hRB, pr_96, pw_142, (fun q_ h1 h2 => pr_140 q_ h2 h1), (fun q_ h1 h2 => pr_152 q_ h2 h1), (fun q_ h1 h2 => pr_153 q_ h2 h1)⟩⟩
      · try simp only [br] at hc58
        refine Run.skip ?_
        refine Run.inBlock ?_
        refine Run.region ?_
        refine RL.val (litI (c := ((i + 1 : Nat) : Int)) (x_add rfl rfl (by omega) (by omega)) rfl) ?_
        refine RL.val (x_moveI rfl) ?_
        refine RL.nil ?_
        have hfe : (framesR (readB pl (nameS n))).2 = [] := List.eq_nil_of_length_eq_zero (by omega)
        have hgo := hRP.trans (readP_go hn hfe)
        rw [← hRB] at hgo
        refine ih1 (i + 1) _ _ ?_ (by omega)
        refine ⟨List.foldl stepH rs ss, _, _, ⟨rfl, rfl, rfl, rfl, rfl, rfl, trivial⟩, K0, hb, hL, hD, ho_4, hR2, ho_88, pr_135, pr_136, pr_137, pr_140, pg_141, pr_89, pr_90, pr_91, pr_95, pw_142, pr_96, ?_, ?_, ?_⟩
        · omega
        · omega
        · exact hgo
  · try simp only [br] at hc19
    refine Run.exit rfl ?_
    refine Run.seq ?_
    refine Run.region ?_
    refine RL.val (x_moveSl rfl) ?_
    refine RL.val (x_assignSl rfl) ?_
    refine RL.val (x_assignI rfl) ?_
    refine RL.nil ?_
    refine Run.ret2 (v := .slice (ao) ((rs.map RB.h).length) (co)) (x := .int .i64 (0)) Tryz.func134 rfl rfl rfl ?_
    have hie : i = (segsL pl).length := by omega
    subst hie
    rw [List.drop_length] at hRP
    rw [hRP]
    exact ⟨_, rfl, F, hD, movedS_foot (fun q_ h_ _ => h_), K0, .inl ⟨rfl, ao, co, _, rfl, ho_15, hO_14, rfl, pr_26, pr_25, (fun q_ h1 h2 => pr_19 q_ h2 h1), pr_22, pr_17⟩⟩

end Go.Proofs.YtnphndfbgdkgbaaGreatDoor
