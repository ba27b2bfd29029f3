/-
  Map
-/
import Derived.Test.YtjkaicjmfgekjaaGreatDoorPkLoop
import Derived.Laws.IdiomRangeMap
import Derived.MapKept
import Derived.Lib.AppendZerosOnto
set_option linter.all false
namespace Go.Proofs.YtjkaicjmfgekjaaGreatDoor
theorem CM {α β:Type}(f:α→β):∀(l:List α) (i:Nat),(l.eraseIdx i).map f=(l.map f).eraseIdx i
 |[],_=>rfl
 |_::_,0=>rfl
 |x::l,i+1=>by simp[CM f l i]
theorem Eg {N r:Nat}(h:N≤r):∀q,one r q→N≤q:=fun q e=>by rw[show q=r from e];exact h
def CB {κ:Type}[DecidableEq κ](a:κ):List (κ×Value)→Nat→Option (Nat×Value)
 |[],_=>none
 |p::ps,i=>if a=p.1 then some (i,p.2)else CB a ps (i+1)
class MKey (κ:Type)[DecidableEq κ] where
 enc:κ→Value
 desc:Program→TypeId→TypeDesc→Prop
 check:∀{P:Program} {k:TypeId} {d:TypeDesc},P.underlying k=some d→desc P k d→∀(a:κ) (e:Bool) (n:Nat) (w:World),(Instr.checkKey e (n+2) k (enc a)).run P w= .ok () w
 find:∀{P:Program} {k:TypeId} {d:TypeDesc},P.underlying k=some d→desc P k d→∀(a:κ) (es:List MapEntry) (ps:List (κ×Value)) (w:World),es.map (fun e=>(e.key,e.val))=ps.map (fun p=>(enc p.1,p.2))→(Instr.findKey k (enc a) es).run P w= .ok (CB a ps 0) w
 stays:∀(P:Program) (w:World) (a:κ),(Instr.keyThatStays (enc a) (enc a)).run P w= .ok (enc a) w
theorem II {κ : Type} [DecidableEq κ] {enc : κ → Value} {d : TypeDesc} (hs : ∀ a b, Instr.sameNow d (enc a) (enc b) = some (decide (a = b))) (a : κ) : ∀ (es : List MapEntry) (ps : List (κ × Value)) (i : Nat), es.map (fun e => (e.key, e.val)) = ps.map (fun p => (enc p.1, p.2)) → Instr.findNow d (enc a) es i = some (CB a ps i)
  | [], [], _, _ => rfl
  | [], _ :: _, _, h => by simp at h
  | _ :: _, [], _, h => by simp at h
  | e :: es, p :: ps, i, h => by
    simp only [List.map_cons, List.cons.injEq, Prod.mk.injEq] at h
    obtain ⟨⟨h1, h2⟩, h3⟩ := h
    unfold Instr.findNow CB
    rw [h1, hs a p.1]
    by_cases hc : a = p.1
    · simp [hc, h2]
    · simp only [hc, decide_false, if_false]
      exact II hs a es ps (i + 1) h3
theorem Oe {κ:Type}[DecidableEq κ]{enc:κ→Value}{d:TypeDesc}(hk:∀a,MapKept.IsKey d (enc a))(inj:∀a b,enc a=enc b→a=b)(a b:κ):Instr.sameNow d (enc a) (enc b)=some (decide (a=b)):=by
 obtain⟨r,hr,hi⟩:=MapKept.sameNow_of_keys (hk a) (hk b)
 rw[hr]
 congr 1
 rw[Bool.eq_iff_iff,hi,decide_eq_true_eq]
 exact⟨inj a b,fun e=>by rw[e]⟩
theorem Of {κ:Type}[DecidableEq κ]{enc:κ→Value}{P:Program}{k:TypeId}{d:TypeDesc}(hk:P.underlying k=some d)(hs:∀a b,Instr.sameNow d (enc a) (enc b)=some (decide (a=b)))(a:κ)(es:List MapEntry)(ps:List (κ×Value))(w:World)(h:es.map (fun e=>(e.key,e.val))=ps.map (fun p=>(enc p.1,p.2))):
  (Instr.findKey k (enc a) es).run P w= .ok (CB a ps 0) w:=by
 simp[Instr.findKey,run_underlying hk,II hs a es ps 0 h,Result.andThen]
instance : MKey ByteArray where
 enc s:= .string s
 desc _ _ d:=d= .string
 check hk hd a e n w:=by subst hd;exact MapKept.run_checkKey (w:=w) hk (show MapKept.IsKey .string (.string a)from trivial) e (n+1)
 find hk hd a es ps w h:=by subst hd;exact Of (enc:=fun s:ByteArray=> .string s) hk (Oe (enc:=fun s:ByteArray=> .string s) (fun _=>trivial) (fun a b h=>by injection h)) a es ps w h
 stays P w a:=MapKept.run_keyThatStays (P:=P) (w:=w) (d:= .string) (show MapKept.IsKey .string (.string a)from trivial)
instance : MKey Int where
 enc n:= .int .i64 n
 desc _ _ d:=d= .int .i64
 check hk hd a e n w:=by subst hd;exact MapKept.run_checkKey (w:=w) hk (show MapKept.IsKey (.int .i64) (.int .i64 a)from rfl) e (n+1)
 find hk hd a es ps w h:=by subst hd;exact Of (enc:=fun n:Int=> .int .i64 n) hk (Oe (enc:=fun n:Int=> .int .i64 n) (fun _=>rfl) (fun a b h=>by injection h)) a es ps w h
 stays P w a:=MapKept.run_keyThatStays (P:=P) (w:=w) (d:= .int .i64) (show MapKept.IsKey (.int .i64) (.int .i64 a)from rfl)
section
variable {κ :Type}
def Dc [DecidableEq κ](ps:List (κ×Value))(a:κ):Option Value:=(ps.find? (fun p=>decide (a=p.1))).map (·.2)
structure AQ [DecidableEq κ][MKey κ](w:World)(m:Nat)(ps:List (κ×Value)):Prop where
 ex:∃(es:Array MapEntry) (clock:Nat),w.heap[m]? =some (.map es clock)∧es.toList.map (fun e=>(e.key,e.val))=ps.map (fun p=>(MKey.enc p.1,p.2))∧(es.toList.map (·.born)).Nodup∧(∀e∈es.toList,e.born<clock)
 nodup:(ps.map (·.1)).Nodup
variable {w w':World}{m:Nat}{ps:List (κ×Value)}{S:Nat→Prop}
theorem AQ.lt [DecidableEq κ][MKey κ](h:AQ w m ps):m<w.heap.size:=by obtain⟨⟨_,_,h,_⟩,_⟩:=h;exact BT h
theorem AQ.keep [DecidableEq κ][MKey κ](h:AQ w m ps)(k:Ah S w w')(hn:¬S m):AQ w' m ps:=by
 have hl:=h.lt
 obtain⟨⟨es,c,h1,h2⟩,h3⟩:=h
 exact⟨⟨es,c,(k.block m hl hn).trans h1,h2⟩,h3⟩
theorem AQ.ext [DecidableEq κ][MKey κ](h:AQ w m ps)(k:Aq w w'):AQ w' m ps:=h.keep k id
theorem JS [DecidableEq κ] (a : κ) : ∀ (ps : List (κ × Value)) (i : Nat), (CB a ps i).map (·.2) = Dc ps a
  | [], _ => rfl
  | p :: ps, i => by
    unfold CB Dc
    rw [List.find?_cons]
    by_cases h : a = p.1
    · simp [h]
    · simp only [h, if_false, decide_false]
      exact JS a ps (i + 1)
def FH [DecidableEq κ](ps:List (κ×Value))(a:κ)(v:Value):List (κ×Value):=match CB a ps 0 with
 |some (i,_)=>ps.set i (a,v)
 |none=>ps++[(a,v)]
def M6 [DecidableEq κ](ps:List (κ×Value))(a:κ):List (κ×Value):=match CB a ps 0 with
 |some (i,_)=>ps.eraseIdx i
 |none=>ps
theorem Fj [DecidableEq κ] {a : κ} : ∀ {ps : List (κ × Value)} {i k : Nat} {v : Value}, CB a ps i = some (k, v) → ∃ j, k = i + j ∧ ps[j]? = some (a, v)
  | [], _, _, _, h => by simp [CB] at h
  | p :: ps, i, k, v, h => by
    unfold CB at h
    split at h
    · rename_i hc
      simp only [Option.some.injEq, Prod.mk.injEq] at h
      exact ⟨0, by omega, by simp [hc, ← h.2]⟩
    · obtain ⟨j, h1, h2⟩ := Fj h
      exact ⟨j + 1, by omega, by simpa using h2⟩
theorem Gw [DecidableEq κ] {a : κ} : ∀ {ps : List (κ × Value)} {i : Nat}, CB a ps i = none → ∀ p ∈ ps, p.1 ≠ a
  | [], _, _, p, hp => by simp at hp
  | q :: ps, i, h, p, hp => by
    unfold CB at h
    split at h
    · cases h
    · rename_i hc
      rcases List.mem_cons.1 hp with rfl | hp
      · exact fun e => hc e.symm
      · exact Gw h p hp
theorem ET (w:World)(m:Nat)(o:Obj):Ah (one m) w {w with heap:=w.heap.setIfInBounds m o}:=
 ⟨rfl,rfl,rfl,by simp,fun k _ hn=>by simp only[Array.getElem?_setIfInBounds];rw[if_neg (fun e=>hn e.symm)]⟩
theorem JA {ps:List (κ×Value)}{j:Nat}{a:κ}{v u:Value}(h:ps[j]? =some (a,u)):(ps.set j (a,v)).map (·.1)=ps.map (·.1):=by
 rw[List.map_set]
 apply List.ext_getElem?
 intro k
 rw[List.getElem?_set]
 split
 ·rename_i e
  subst e
  rw[List.getElem?_map,h]
  simp only[Option.map_some,List.length_map]
  rw[if_pos (List.getElem?_eq_some_iff.1 h).1]
 ·rfl
theorem LJ {es:Array MapEntry}{j:Nat}{k v:Value}:((es.modify j (fun e=>{e with key:=k,val:=v})).toList.map (·.born))=es.toList.map (·.born):=by
 apply List.ext_getElem?
 intro i
 simp only[List.getElem?_map,Array.getElem?_toList,Array.getElem?_modify]
 split
 ·cases es[i]? <;>rfl
 ·rfl
section
variable {P :Program}{t k e:TypeId}{d:TypeDesc}{a:κ}{v:Value}
theorem M7 [DecidableEq κ] [MKey κ] (ht : P.underlying t = some (.map k e)) (hk : P.underlying k = some d) (hd : MKey.desc κ P k d) (h : AQ w m ps) :
    ∃ w', (Instr.mapUpdate t (.map (some m)) (MKey.enc a) v).run P w = .ok () w' ∧ AQ w' m (FH ps a v) ∧ Ah (one m) w w' := by
  have hlt := h.lt
  obtain ⟨⟨es, c, h1, h2, h3, h4⟩, h5⟩ := h
  have hf := MKey.find hk hd a _ _ w h2
  have hc := MKey.check hk hd a false 9998 w
  cases hm : CB a ps 0 with
  | none =>
    rw [hm] at hf
    refine ⟨{ w with heap := w.heap.setIfInBounds m (.map (es.push { key := MKey.enc a, val := v, born := c }) (c + 1)) }, by simp only [Instr.mapUpdate, Sem.run_bind, run_underlying ht, Result.andThen_ok, MapKept.run_getObj_map h1, hc, hf, MapKept.run_setObj_map _ h1], ?_, ET w m _⟩
    have hno := Gw hm
    refine ⟨⟨_, _, by simp only [Array.getElem?_setIfInBounds, if_true, hlt]; rfl, ?_, ?_, ?_⟩, ?_⟩
    · simp only [FH, hm, Array.toList_push, List.map_append, h2, List.map_cons, List.map_nil]
    · simp only [Array.toList_push, List.map_append, List.map_cons, List.map_nil]
      rw [List.nodup_append]
      refine ⟨h3, by simp, ?_⟩
      intro x hx y hy
      simp only [List.mem_singleton] at hy
      obtain ⟨q, hq, rfl⟩ := List.mem_map.1 hx
      have := h4 q hq
      omega
    · intro x hx
      simp only [Array.toList_push, List.mem_append, List.mem_singleton] at hx
      rcases hx with hx | rfl
      · have := h4 x hx; omega
      · simp
    · simp only [FH, hm, List.map_append, List.map_cons, List.map_nil]
      rw [List.nodup_append]
      refine ⟨h5, by simp, ?_⟩
      intro x hx y hy
      simp only [List.mem_singleton] at hy
      obtain ⟨q, hq, rfl⟩ := List.mem_map.1 hx
      subst hy
      exact hno q hq
  | some r =>
    obtain ⟨i, u⟩ := r
    rw [hm] at hf
    obtain ⟨j, hj, hp⟩ := Fj hm
    simp only [Nat.zero_add] at hj
    subst hj
    have hes : (es.toList.map (fun e => (e.key, e.val)))[i]? = some (MKey.enc a, u) := by rw [h2, List.getElem?_map, hp]; rfl
    rw [List.getElem?_map, Option.map_eq_some_iff] at hes
    obtain ⟨e0, he0, he1⟩ := hes
    simp only [Prod.mk.injEq] at he1
    have he2 : es[i]? = some e0 := by rw [← Array.getElem?_toList]; exact he0
    have hst := MKey.stays P w a
    refine ⟨{ w with heap := w.heap.setIfInBounds m (.map (es.modify i (fun e => { e with key := MKey.enc a, val := v })) c) }, by simp only [Instr.mapUpdate, Sem.run_bind, run_underlying ht, Result.andThen_ok, MapKept.run_getObj_map h1, hc, hf, he2, Option.map_some, Option.getD_some, he1.1, hst, MapKept.run_setObj_map _ h1], ?_, ET w m _⟩
    refine ⟨⟨_, _, by simp only [Array.getElem?_setIfInBounds, if_true, hlt]; rfl, ?_, ?_, ?_⟩, ?_⟩
    · simp only [FH, hm]
      apply List.ext_getElem?
      intro q
      simp only [List.getElem?_map, Array.getElem?_toList, Array.getElem?_modify, List.getElem?_set]
      have hlen : i < ps.length := (List.getElem?_eq_some_iff.1 hp).1
      by_cases hq : i = q
      · subst hq
        simp [he2, hlen]
      · have h2q := congrArg (fun l => l[q]?) h2
        simp only [List.getElem?_map, Array.getElem?_toList] at h2q
        simp only [hq, if_false]
        exact h2q
    · rw [LJ]; exact h3
    · intro x hx
      have hb : x.born ∈ es.toList.map (·.born) := by rw [← LJ (j := i) (k := MKey.enc a) (v := v)]; exact List.mem_map.2 ⟨x, hx, rfl⟩
      obtain ⟨y, hy, e1⟩ := List.mem_map.1 hb
      rw [← e1]
      exact h4 y hy
    · simp only [FH, hm]
      rw [JA hp]
      exact h5
theorem IJ [DecidableEq κ] [MKey κ] (ht : P.underlying t = some (.map k e)) (hk : P.underlying k = some d) (hd : MKey.desc κ P k d) {size bytes : Nat} {z : Value} {agg : Bool} (he : Ty P e size bytes z agg) (h : AQ w m ps) (ok : Bool) :
    (Instr.lookup t (.map (some m)) (MKey.enc a) ok).run P w = .ok (if ok then .tuple #[(Dc ps a).getD z, .bool (Dc ps a).isSome] else (Dc ps a).getD z) w := by
  obtain ⟨⟨es, c, h1, h2, _⟩, _⟩ := h
  have hf := MKey.find hk hd a _ _ w h2
  have hc := MKey.check hk hd a es.isEmpty 9998 w
  have hg := JS a ps 0
  cases hm : CB a ps 0 with
  | none =>
    rw [hm] at hf hg
    rw [← hg]
    simp only [Instr.lookup, Sem.run_bind, run_underlying ht, Result.andThen_ok, MapKept.run_getObj_map h1, Sem.run_pure, hc, hf, he.run_zero, Option.map_none, Option.getD_none, Option.isSome_none]
  | some r =>
    obtain ⟨i, u⟩ := r
    rw [hm] at hf hg
    rw [← hg]
    simp only [Instr.lookup, Sem.run_bind, run_underlying ht, Result.andThen_ok, MapKept.run_getObj_map h1, Sem.run_pure, hc, hf, Option.map_some, Option.getD_some, Option.isSome_some]
theorem SO [DecidableEq κ][MKey κ](ht:P.underlying t=some (.map k e))(h:AQ w m ps){ty:TypeId}:(Builtin.len_ #[t] ty #[.map (some m)]).run P w= .ok (.int .i64 (ps.length:Int)) w:=by
 obtain⟨⟨es,c,h1,h2,_⟩,_⟩:=h
 have hl:=congrArg List.length h2
 simp only[List.length_map,Array.length_toList]at hl
 simp[Builtin.len_,run_underlying ht,MapKept.run_getObj_map h1,goInt,hl,Result.andThen]
theorem M8 [DecidableEq κ] [MKey κ] (ht : P.underlying t = some (.map k e)) (hk : P.underlying k = some d) (hd : MKey.desc κ P k d) (h : AQ w m ps) {ty t2 : TypeId} :
    ∃ w', (Builtin.delete_ #[t, t2] ty #[.map (some m), MKey.enc a]).run P w = .ok (.tuple #[]) w' ∧ AQ w' m (M6 ps a) ∧ Ah (one m) w w' := by
  have hlt := h.lt
  obtain ⟨⟨es, c, h1, h2, h3, h4⟩, h5⟩ := h
  have hf := MKey.find hk hd a _ _ w h2
  have hc := MKey.check hk hd a es.isEmpty 9998 w
  cases hm : CB a ps 0 with
  | none =>
    rw [hm] at hf
    refine ⟨{ w with heap := w.heap.setIfInBounds m (.map es c) }, by simp [Builtin.delete_, run_underlying ht, MapKept.run_getObj_map h1, hc, hf, MapKept.run_setObj_map _ h1, Result.andThen], ?_, ET w m _⟩
    simp only [M6, hm]
    exact ⟨⟨es, c, by simp only [Array.getElem?_setIfInBounds, if_true, hlt], h2, h3, h4⟩, h5⟩
  | some r =>
    obtain ⟨i, u⟩ := r
    rw [hm] at hf
    refine ⟨{ w with heap := w.heap.setIfInBounds m (.map (es.eraseIdxIfInBounds i) c) }, by simp [Builtin.delete_, run_underlying ht, MapKept.run_getObj_map h1, hc, hf, MapKept.run_setObj_map _ h1, Result.andThen], ?_, ET w m _⟩
    have hl : (es.eraseIdxIfInBounds i).toList = es.toList.eraseIdx i := by
      rw [Array.eraseIdxIfInBounds]
      split
      · rw [Array.toList_eraseIdx]
      · rename_i hi
        rw [List.eraseIdx_of_length_le (by simpa using hi)]
    simp only [M6, hm]
    refine ⟨⟨_, c, by simp only [Array.getElem?_setIfInBounds, if_true, hlt]; rfl, ?_, ?_, ?_⟩, ?_⟩
    · rw [hl, CM, h2, CM]
    · rw [hl, CM]; exact h3.sublist (List.eraseIdx_sublist _ _)
    · intro x hx
      rw [hl] at hx
      exact h4 x (List.mem_of_mem_eraseIdx hx)
    · rw [CM]; exact h5.sublist (List.eraseIdx_sublist _ _)
theorem HP {b : Nat} : ∀ {L : List MapEntry} {j : Nat} {x : MapEntry}, (L.map (·.born)).Nodup → L[j]? = some x → x.born = b → L.filter (fun y => !(y.born == b)) = L.eraseIdx j
  | [], _, _, _, h, _ => by simp at h
  | y :: L, 0, x, hn, h, hb => by
    simp only [List.getElem?_cons_zero, Option.some.injEq] at h
    subst h
    simp only [List.map_cons, List.nodup_cons] at hn
    rw [List.filter_cons, if_neg (by simp [hb]), List.eraseIdx_cons_zero, List.filter_eq_self]
    intro z hz
    have : z.born ≠ b := fun e => hn.1 (by rw [hb, ← e]; exact List.mem_map.2 ⟨z, hz, rfl⟩)
    simp [this]
  | y :: L, j + 1, x, hn, h, hb => by
    simp only [List.getElem?_cons_succ] at h
    simp only [List.map_cons, List.nodup_cons] at hn
    have : y.born ≠ b := fun e => hn.1 (by rw [e, ← hb]; exact List.mem_map.2 ⟨x, List.mem_of_getElem? h, rfl⟩)
    rw [List.filter_cons, if_pos (by simp [this]), List.eraseIdx_cons_succ, HP hn.2 h hb]
structure BO [DecidableEq κ][MKey κ](w:World)(r m:Nat)(rest:List (κ×Value))(last:Option (κ×Value)):Prop where
 ex:∃(es:Array MapEntry) (clock since:Nat) (seen:Array Nat) (c0:Nat),w.heap[m]? =some (.map es clock)∧w.heap[r]? =some (.mapIter (some m) since seen c0)∧(∀e∈es.toList,e.born<since)∧since≤c0∧since≤clock∧(es.toList.map (·.born)).Nodup∧(leftOf es seen).toList.map (fun e=>(e.key,e.val))=rest.map (fun p=>(MKey.enc p.1,p.2))∧
  (∀p,last=some p→clock=c0∧∃b e,seen.back? =some b∧es.find? (·.born==b)=some e∧(e.key,e.val)=(MKey.enc p.1,p.2))
theorem BO.lt [DecidableEq κ][MKey κ]{r:Nat}{rest:List (κ×Value)}{last:Option (κ×Value)}(h:BO w r m rest last):r<w.heap.size∧m<w.heap.size:=by
 obtain⟨_,_,_,_,_,h1,h2,_⟩:=h;exact⟨BT h2,BT h1⟩
theorem BO.ne [DecidableEq κ][MKey κ]{r:Nat}{rest:List (κ×Value)}{last:Option (κ×Value)}(h:BO w r m rest last):r≠m:=by
 obtain⟨_,_,_,_,_,h1,h2,_⟩:=h;rintro rfl;rw[h1]at h2;cases h2
theorem BO.keep [DecidableEq κ][MKey κ]{r:Nat}{rest:List (κ×Value)}{last:Option (κ×Value)}(h:BO w r m rest last)(k:Ah S w w')(hr:¬S r)(hm:¬S m):BO w' r m rest last:=by
 have hl:=h.lt
 obtain⟨es,c,si,se,c0,h1,h2,h3⟩:=h
 exact⟨es,c,si,se,c0,(k.block m hl.2 hm).trans h1,(k.block r hl.1 hr).trans h2,h3⟩
theorem find_born : ∀ {L : List MapEntry} {e : MapEntry}, (L.map (·.born)).Nodup → e ∈ L → L.find? (·.born == e.born) = some e
  | [], _, _, h => by simp at h
  | y :: L, e, hn, h => by
    simp only [List.map_cons, List.nodup_cons] at hn
    rw [List.find?_cons]
    rcases List.mem_cons.1 h with rfl | h
    · simp
    · have : y.born ≠ e.born := fun q => hn.1 (by rw [q]; exact List.mem_map.2 ⟨e, h, rfl⟩)
      simp only [beq_eq_false_iff_ne.2 this]
      exact find_born hn.2 h
theorem M9 [DecidableEq κ][MKey κ](ht:P.underlying t=some (.map k e))(h:AQ w m ps):
  ∃w',(Instr.range t (.map (some m))).run P w= .ok (.pointer (some ⟨w.heap.size,0,none⟩)) w'∧BO w' w.heap.size m ps none∧Aq w w':=by
 have hlt:=h.lt
 obtain⟨⟨es,c,h1,h2,h3,h4⟩,h5⟩:=h
 refine⟨_,run_range_map w t k e m es c ht h1,⟨es,c,c,#[],c,?_,heap_alloc_new w _,h4,Nat.le_refl _,Nat.le_refl _,h3,?_,fun p h=>by cases h⟩,Aq.push w _⟩
 ·rw[heap_alloc_old w _ hlt];exact h1
 ·rw[←h2]
  unfold leftOf
  rw[Array.filter_eq_self.2 Zs]
theorem Pc [DecidableEq κ] [MKey κ] {r : Nat} {rest : List (κ × Value)} {last : Option (κ × Value)} (h : BO w r m rest last) (ty : TypeId) :
    (rest = [] ∧ (Instr.next (.pointer (some ⟨r, 0, none⟩)) false ty).run P w = .ok (.tuple #[.bool false]) w) ∨
    ∃ (j : Nat) (a : κ) (v : Value) (w' : World), rest[j]? = some (a, v) ∧ (Instr.next (.pointer (some ⟨r, 0, none⟩)) false ty).run P w = .ok (.tuple #[.bool true, MKey.enc a, v]) w' ∧ BO w' r m (rest.eraseIdx j) (some (a, v)) ∧ Ah (one r) w w' := by
  have hlt := h.lt
  obtain ⟨es, c, si, se, c0, h1, h2, h3, h4, h5, h6, h7, _⟩ := h
  have hmr : m ≠ r := fun e => by subst e; rw [h1] at h2; cases h2
  have hmem : ∀ x ∈ (leftOf es se).toList, x.born < si := fun x hx => h3 x (by unfold leftOf at hx; simp at hx ⊢; exact hx.1)
  have e1 : (leftOf es se).filter (fun x => decide (x.born < si)) = leftOf es se := Array.filter_eq_self.2 (fun x hx => by simpa using hmem x (by simpa using hx))
  have e2 : (leftOf es se).filter (fun x => decide (x.born ≥ si)) = #[] := by
    rw [Array.filter_eq_empty_iff]
    intro x hx
    have := hmem x (by simpa using hx)
    simp
    omega
  have hgo : (Instr.next (.pointer (some ⟨r, 0, none⟩)) false ty).run P w = (do
      match ((if (leftOf es se).isEmpty then #[none] else #[]) ++ (leftOf es se).map some)[← choose (.mapNext ((if (leftOf es se).isEmpty then #[none] else #[]) ++ (leftOf es se).map some).size)]? with
      | some (some e) =>
        setObj r (.mapIter (some m) si (se.push e.born) c)
        pure (.tuple #[.bool true, e.key, e.val])
      | some none => pure (.tuple #[.bool false])
      | none => stuck "Next: no such candidate" : Sem Value).run P w := by
    simp only [Instr.next, getObj, Sem.run_bind, Sem.run, h2, h1, Result.andThen, next_test_false se es si c0 h3 h4, Bool.false_eq_true, if_false]
    have e1' := e1
    have e2' := e2
    unfold leftOf at e1' e2' ⊢
    rw [e1', e2', Array.append_empty]
    rfl
  have hN : ((leftOf es se).toList.map (·.born)).Nodup := by
    unfold leftOf
    rw [Array.toList_filter]
    exact h6.sublist (List.filter_sublist.map _)
  by_cases h0 : (leftOf es se).size = 0
  · left
    have hemp : leftOf es se = #[] := Array.eq_empty_of_size_eq_zero h0
    rw [hemp] at h7 hgo
    refine ⟨by simpa using h7, hgo.trans ?_⟩
    simp [choose, Sem.run, Question.forced]
  · right
    have hne : (leftOf es se).isEmpty = false := by simp [Array.isEmpty, h0]
    simp only [hne, Bool.false_eq_true, if_false, Array.empty_append, Array.size_map] at hgo
    obtain ⟨j, w1, hj, hw1, hrun⟩ : ∃ (j : Nat) (w1 : World), j < (leftOf es se).size ∧ (w1 = w ∨ w1 = { w with drawn := w.drawn + 1 }) ∧ (choose (Question.mapNext (leftOf es se).size)).run P w = .ok j w1 := by
      by_cases hf : (leftOf es se).size ≤ 1
      · exact ⟨0, w, by omega, .inl rfl, by simp [choose, Sem.run, Question.forced, hf]⟩
      · exact ⟨_, w.drew, Nat.mod_lt _ Zo, .inr rfl, by
          simp only [choose, Sem.run, Question.forced, decide_eq_true_eq, hf, if_false, Question.cut]
          rfl⟩
    have hw1h : w1.heap = w.heap := by rcases hw1 with rfl | rfl <;> rfl
    have hx : (leftOf es se).toList[j]? = some (leftOf es se)[j] := by simp
    have hr7 := congrArg (fun l => l[j]?) h7
    simp only [List.getElem?_map, hx, Option.map_some] at hr7
    cases hrj : rest[j]? with
    | none => rw [hrj] at hr7; cases hr7
    | some p =>
      obtain ⟨a, v⟩ := p
      rw [hrj] at hr7
      simp only [Option.map_some, Option.some.injEq, Prod.mk.injEq] at hr7
      have hs : (setObj r (.mapIter (some m) si (se.push (leftOf es se)[j].born) c)).run P w1 = .ok () { w1 with heap := w1.heap.setIfInBounds r (.mapIter (some m) si (se.push (leftOf es se)[j].born) c) } := by
        simp only [setObj, Sem.run, hw1h, h2]
      refine ⟨j, a, v, { w1 with heap := w1.heap.setIfInBounds r (.mapIter (some m) si (se.push (leftOf es se)[j].born) c) }, hrj, ?_, ?_, ?_⟩
      · rw [hgo]
        simp only [Sem.run_bind, hrun, Result.andThen_ok, Array.getElem?_map, Array.getElem?_eq_getElem hj, Option.map_some, hs, Sem.run_pure, hr7.1, hr7.2]
      · refine ⟨es, c, si, se.push (leftOf es se)[j].born, c, ?_, ?_, h3, h5, h5, h6, ?_, ?_⟩
        · simp only [Array.getElem?_setIfInBounds, hw1h]
          rw [if_neg (fun e => hmr e.symm)]; exact h1
        · simp only [Array.getElem?_setIfInBounds, hw1h, if_true, hlt.1]
        · have e3 : (leftOf es (se.push (leftOf es se)[j].born)).toList = (leftOf es se).toList.filter (fun y => !(y.born == (leftOf es se)[j].born)) := by
            unfold leftOf
            rw [Array.toList_filter, Array.toList_filter, List.filter_filter]
            apply List.filter_congr
            intro x _
            rw [contains_push, Bool.not_or, Bool.and_comm]
          rw [e3, HP hN hx rfl, CM, h7, CM]
        · intro p hp
          simp only [Option.some.injEq] at hp
          subst hp
          refine ⟨rfl, (leftOf es se)[j].born, (leftOf es se)[j], by simp, ?_, by simp only [hr7.1, hr7.2]⟩
          have hin : (leftOf es se)[j] ∈ es.toList := by
            have h9 := List.mem_of_getElem? hx
            unfold leftOf at h9
            rw [Array.toList_filter] at h9
            exact (List.mem_filter.1 h9).1
          rw [← Array.find?_toList]
          exact find_born h6 hin
      · have k1 : Ah (one r) w w1 := by rcases hw1 with rfl | rfl; exact Ah.refl _ _; exact Ah.drew _ _
        exact k1.trans (ET w1 r _) (fun _ _ h => h)
variable {n :FN}{ρ:AV}{dst:Option Nat}{pos:String}{af:Array Edge}{g:Option (Nat×Bool)}{f:FuncId}{R:Ending→World→Prop}{kk:List Item}{K:AV→World→Prop}{ty:TypeId}
theorem Gx {v v':Value}{w1:World}{o:Oper}(h:X P n ρ o w v w1)(e:v=v'):X P n ρ o w v' w1:=e▸h
theorem BO.own_lt [DecidableEq κ][MKey κ]{r:Nat}{rest:List (κ×Value)}{last:Option (κ×Value)}(h:BO w r m rest last):∀q,one r q→q<w.heap.size:=fun q e=>by rw[show q=r from e];exact h.lt.1
theorem BO.ext [DecidableEq κ][MKey κ]{r:Nat}{rest:List (κ×Value)}{last:Option (κ×Value)}(h:BO w r m rest last)(k:Aq w w'):BO w' r m rest last:=h.keep k id id
theorem BO.keepO [DecidableEq κ][MKey κ]{r:Nat}{rest:List (κ×Value)}{last:Option (κ×Value)}(h:BO w r m rest last)(k:Ah S w w')(hr:∀q,one r q→¬S q)(hm:∀q,one m q→¬S q):BO w' r m rest last:=h.keep k (hr r rfl) (hm m rfl)
theorem FI [DecidableEq κ][MKey κ]{x ix:Operand}{size bytes:Nat}{z:Value}{agg:Bool}(ht:P.underlying t=some (.map k e))(hk:P.underlying k=some d)(hd:MKey.desc κ P k d)(he:Ty P e size bytes z agg)(hx:rd n ρ x= .map (some m))(hi:rd n ρ ix=MKey.enc a)(h:AQ w m ps):
  X P n ρ ⟨dst,.lookup t x ix false,ty,pos,af,g⟩ w ((Dc ps a).getD z) w:=by
 have:=IJ (a:=a) ht hk hd he h false
 simp[X,execOp,hx,hi,this]
theorem DH [DecidableEq κ][MKey κ]{x ix:Operand}{size bytes:Nat}{z:Value}{agg:Bool}(ht:P.underlying t=some (.map k e))(hk:P.underlying k=some d)(hd:MKey.desc κ P k d)(he:Ty P e size bytes z agg)(hx:rd n ρ x= .map (some m))(hi:rd n ρ ix=MKey.enc a)(h:AQ w m ps):
  X P n ρ ⟨dst,.lookup t x ix true,ty,pos,af,g⟩ w (.tuple #[(Dc ps a).getD z,.bool (Dc ps a).isSome]) w:=by
 have:=IJ (a:=a) ht hk hd he h true
 simp[X,execOp,hx,hi,this]
theorem Av.mapUpdate [DecidableEq κ][MKey κ]{x ix y:Operand}(ht:P.underlying t=some (.map k e))(hk:P.underlying k=some d)(hd:MKey.desc κ P k d)(hx:rd n ρ x= .map (some m))(hi:rd n ρ ix=MKey.enc a)(hy:rd n ρ y=v)(h:AQ w m ps)
  (hK:∀w',AQ w' m (FH ps a v)→Ah (one m) w w'→K ρ w'):Av P f n R kk ⟨none,.mapUpdate t x ix y,ty,pos,af,none⟩ ρ w K:=by
 obtain⟨w',h1,h2,h3⟩:=M7 (a:=a) (v:=v) ht hk hd h
 refine Av.skip (w':=w') ?_ (hK w' h2 h3)
 simp[execOp,hx,hi,hy,h1]
theorem Av.rangeMap [DecidableEq κ][MKey κ]{x:Operand}(ht:P.underlying t=some (.map k e))(hx:rd n ρ x= .map (some m))(h:AQ w m ps)
  (hK:∀r w',w.heap.size≤r→BO w' r m ps none→Aq w w'→K (A4 ρ dst (.pointer (some ⟨r,0,none⟩))) w'):Av P f n R kk ⟨dst,.range t x,ty,pos,af,none⟩ ρ w K:=by
 obtain⟨w',h1,h2,h3⟩:=M9 ht h
 exact Av.val (w':=w') (by simp[execOp,hx,h1]) (hK _ w' (Nat.le_refl _) h2 h3)
theorem Av.nextMap [DecidableEq κ][MKey κ]{x:Operand}{r:Nat}{rest:List (κ×Value)}{last:Option (κ×Value)}(hx:rd n ρ x= .pointer (some ⟨r,0,none⟩))(h:BO w r m rest last)
  (hE:rest=[]→K (A4 ρ dst (.tuple #[.bool false])) w)
  (hK:∀(j:Nat) (a:κ) (v:Value) (w':World),rest[j]? =some (a,v)→BO w' r m (rest.eraseIdx j) (some (a,v))→Ah (one r) w w'→K (A4 ρ dst (.tuple #[.bool true,MKey.enc a,v])) w'):
  Av P f n R kk ⟨dst,.next x false,ty,pos,af,none⟩ ρ w K:=by
 rcases Pc (P:=P) h ty with⟨h0,h1⟩|⟨j,a,v,w',h0,h1,h2,h3⟩
 ·exact Av.val (w':=w) (by simp[execOp,hx,h1]) (hE h0)
 ·exact Av.val (w':=w') (by simp[execOp,hx,h1]) (hK j a v w' h0 h2 h3)
theorem SP [DecidableEq κ][MKey κ]{x:Operand}{r:Nat}{rest:List (κ×Value)}(hx:rd n ρ x= .pointer (some ⟨r,0,none⟩))(h:BO w r m rest (some (a,v))):
  X P n ρ ⟨dst,.entry x,ty,pos,af,g⟩ w (.tuple #[MKey.enc a,v]) w:=by
 obtain⟨es,c,si,se,c0,h1,h2,_,_,_,_,_,h8⟩:=h
 obtain⟨hc,b,e,hb,he,hk⟩:=h8 _ rfl
 simp only[Prod.mk.injEq]at hk
 subst hc
 have hrun:(Instr.entry (.pointer (some ⟨r,0,none⟩))).run P w= .ok (.tuple #[MKey.enc a,v]) w:=by
  simp only[Instr.entry,Sem.run_bind,getObj,Sem.run,h2,h1,Result.andThen,hb,he,bne_self_eq_false,Bool.false_eq_true,if_false,Sem.run_pure,hk.1,hk.2]
 simp only[X,execOp,hx,Sem.run_bind,hrun,Result.andThen_ok]
 rfl
theorem QB [DecidableEq κ][MKey κ]{x:Operand}(ht:P.underlying t=some (.map k e))(hx:rd n ρ x= .map (some m))(h:AQ w m ps):
  X P n ρ ⟨dst,.call {callee:= .builtin .len,args:=#[x],argTypes:=#[t]},ty,pos,af,g⟩ w (.int .i64 (ps.length:Int)) w:=by
 have:=SO (ty:=ty) ht h
 simp[X,execOp,resolve,invoke,builtin,hx,this]
theorem Av.deleteMap [DecidableEq κ][MKey κ]{x ix:Operand}{t2:TypeId}(ht:P.underlying t=some (.map k e))(hk:P.underlying k=some d)(hd:MKey.desc κ P k d)(hx:rd n ρ x= .map (some m))(hi:rd n ρ ix=MKey.enc a)(h:AQ w m ps)
  (hK:∀w',AQ w' m (M6 ps a)→Ah (one m) w w'→K (A4 ρ dst (.tuple #[])) w'):Av P f n R kk ⟨dst,.call {callee:= .builtin .delete,args:=#[x,ix],argTypes:=#[t,t2]},ty,pos,af,none⟩ ρ w K:=by
 obtain⟨w',h1,h2,h3⟩:=M8 (a:=a) (ty:=ty) (t2:=t2) ht hk hd h
 exact Av.val (w':=w') (by simp[execOp,resolve,invoke,builtin,hx,hi,h1]) (hK w' h2 h3)
structure HQ [DecidableEq κ][MKey κ](w:World)(r m:Nat)(ps rest:List (κ×Value))(last:Option (κ×Value)):Prop where
 map:AQ w m ps
 it:BO w r m rest last
def T7 (r m:Nat):Nat→Prop:=fun q=>q=r∨q=m
theorem AQ.own_lt [DecidableEq κ][MKey κ](h:AQ w m ps):∀q,one m q→q<w.heap.size:=fun q e=>by rw[show q=m from e];exact h.lt
theorem AQ.keepO [DecidableEq κ][MKey κ](h:AQ w m ps)(k:Ah S w w')(hn:∀q,one m q→¬S q):AQ w' m ps:=h.keep k (hn m rfl)
theorem HQ.own_lt [DecidableEq κ][MKey κ]{r:Nat}{rest:List (κ×Value)}{last:Option (κ×Value)}(h:HQ w r m ps rest last):∀q,T7 r m q→q<w.heap.size:=by
 rintro q (rfl|rfl)
 ·exact h.it.lt.1
 ·exact h.it.lt.2
theorem HQ.keepO [DecidableEq κ][MKey κ]{r:Nat}{rest:List (κ×Value)}{last:Option (κ×Value)}(h:HQ w r m ps rest last)(k:Ah S w w')(hn:∀q,T7 r m q→¬S q):HQ w' r m ps rest last:=
 ⟨h.map.keep k (hn m (.inr rfl)),h.it.keep k (hn r (.inl rfl)) (hn m (.inr rfl))⟩
theorem HQ.ext [DecidableEq κ][MKey κ]{r:Nat}{rest:List (κ×Value)}{last:Option (κ×Value)}(h:HQ w r m ps rest last)(k:Aq w w'):HQ w' r m ps rest last:=h.keepO k fun _ _=>id
theorem KS {k2 e2 t2:TypeId}{r:Option Nat}(ht:P.underlying t2=some (.map k2 e2))(q:Nat):(Op.equalIn (q+1) t2 (.map r) (.map none)).run P w= .ok r.isNone w:=by
 rw[Op.equalIn];cases r<;>simp[run_underlying ht]
theorem LK {t':TypeId}{x y:Operand}{r:Option Nat}(ht:P.underlying t=some (.map k e))(hx:rd n ρ x= .map r)(hy:rd n ρ y= .map none):
  X P n ρ ⟨dst,.binOp .neq t x y t',ty,pos,af,g⟩ w (.bool r.isSome) w:=by
 simp[X,execOp,hx,hy,eqGuard,binOp,ES (KS ht) ht]
theorem Av.makeMap [DecidableEq κ][MKey κ](hK:∀r w',w.heap.size≤r→AQ w' r ([]:List (κ×Value))→Aq w w'→K (A4 ρ dst (.map (some r))) w'):Av P f n R kk ⟨dst,.makeMap t none,ty,pos,af,none⟩ ρ w K:=by
 refine Av.val (w':=w.alloc (.map #[] 0)) (by simp[execOp,Instr.makeMap,newObj,Sem.run]) (hK w.heap.size _ (Nat.le_refl _) ⟨⟨#[],0,heap_alloc_new w _,rfl,by simp,by simp⟩,by simp⟩ (Aq.push w _))
end
end
section
variable {P :Program}{f:FuncId}{n:FN}{R:Ending→World→Prop}{k:List Item}{ρ:AV}{w:World}
variable {dst :Option Nat}{ty:TypeId}{pos:String}{af:Array Edge}{α:Type}[Enc α]{K:AV→World→Prop}{g:Option (Nat×Bool)}
theorem F2 {t e:TypeId}{x:Operand}{a:Option Addr}{l c:Nat}(ht:P.underlying t=some (.slice e))(hx:rd n ρ x= .slice a l c):
  X P n ρ ⟨dst,.call {callee:= .builtin .cap,args:=#[x],argTypes:=#[t]},ty,pos,af,g⟩ w (.int .i64 (c:Int)) w:=by
 simp[X,execOp,resolve,invoke,builtin,Builtin.cap_,run_underlying ht,hx,goInt]
theorem Av.appendZeros {t tn e:TypeId}{s x:Operand}{bytes:Nat}{z:Value}{agg:Bool}{kn:IntKind}{q:Nat}(α:Type)[Enc α]
  (ht:P.underlying t=some (.slice e)) (htn:P.underlying tn=some (.int kn)) (he:Ty P e (Enc.size α) bytes z agg) (hzs:z.cells.size=Enc.size α)
  (hs:rd n ρ s= .slice none 0 0) (hx:rd n ρ x= .int .i64 (q:Int)) (h0:0<q) (hq:q≤4294967296) (hb:bytes≤16384)
  (h:∀b cap' w',w.heap.size≤b→q≤cap'→Af w' e (some ⟨b,0,none⟩) cap' ([]:List α)→Aq w w'→K (A4 ρ dst (.slice (some ⟨b,0,none⟩) q cap')) w'):
  Av P f n R k ⟨dst,.call {callee:= .builtin .append,args:=#[s,x],argTypes:=#[t,tn]},ty,pos,af,none⟩ ρ w K:=by
 obtain⟨i,hi,hz,hsz,hby⟩:=he.info
 have hpos:=Enc.pos (α:=α)
 have hqb:q*bytes≤4294967296*16384:=Nat.mul_le_mul hq hb
 have hr:=Lib.run_append_grow_zeros (P:=P) w t tn ty e i z .i64 kn ht htn hi hz none 0 0 [] (run_firstCells_none w.drew i.size 0 0 0) q h0 Zo Zo Zo (by rw[hby];omega)
  (by rw[Nat.zero_add,nextslicecap_zero h0,hby];omega)
 rw[Nat.zero_add]at hr
 have hge:=grownCap_ge w q 0 e
 have hcm:grownCap w q 0 e≤maxLen:=grownCap_le_maxLen w _ 0 e (by simp only[maxLen];omega)
 refine Av.val (v:= .slice (some ⟨w.heap.size,0,none⟩) q (grownCap w q 0 e)) (w':=w.drew.alloc (.cells (([]:List Value).toArray++Builtin.zeroCells z.cells q++Builtin.zeroCells z.cells (grownCap w q 0 e-q)) e)) (by simp only[execOp,resolve,invoke,builtin,Sem.run_bind,Sem.run_pure,Result.andThen_ok,List.map_toArray,List.map_cons,List.map_nil,hs,hx,hr])
  (h w.heap.size _ _ (Nat.le_refl _) hge ⟨Aw _,.inr ⟨w.heap.size,_,_,rfl,Nat.zero_le _,heap_alloc_new w.drew _,Nat.zero_le _,hcm,?_,by simp[AB]⟩⟩ ⟨rfl,rfl,rfl,by simp,fun k hk _=>heap_alloc_old w.drew _ hk⟩)
 simp only[Array.size_append,List.size_toArray,List.length_nil,size_zeroCells,hzs,←Nat.add_mul]
 rw[Nat.zero_add,←Nat.add_mul]
 congr 1
 omega
end
end Go.Proofs.YtjkaicjmfgekjaaGreatDoor
