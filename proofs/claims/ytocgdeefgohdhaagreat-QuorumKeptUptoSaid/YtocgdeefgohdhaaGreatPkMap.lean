/-
  Map
-/
import Derived.Test.YtocgdeefgohdhaaGreatPkLoop
import Derived.Laws.IdiomRangeMap
import Derived.MapKept
import Derived.Lib.AppendZerosOnto
set_option linter.all false
namespace Go.Proofs.YtocgdeefgohdhaaGreat
theorem ge_one {N r:Nat}(h:N≤r):∀q,one r q→N≤q:=fun q e=>by rw[show q=r from e];exact h
def mfind {κ:Type}[DecidableEq κ](a:κ):List (κ×Value)→Nat→Option (Nat×Value)
 |[],_=>none
 |p::ps,i=>if a=p.1 then some (i,p.2)else mfind a ps (i+1)
class MKey (κ:Type)[DecidableEq κ] where
 enc:κ→Value
 desc:Program→TypeId→TypeDesc→Prop
 check:∀{P:Program} {k:TypeId} {d:TypeDesc},P.underlying k=some d→desc P k d→∀(a:κ) (e:Bool) (n:Nat) (w:World),(Instr.checkKey e (n+2) k (enc a)).run P w= .ok () w
 find:∀{P:Program} {k:TypeId} {d:TypeDesc},P.underlying k=some d→desc P k d→∀(a:κ) (es:List MapEntry) (ps:List (κ×Value)) (w:World),es.map (fun e=>(e.key,e.val))=ps.map (fun p=>(enc p.1,p.2))→(Instr.findKey k (enc a) es).run P w= .ok (mfind a ps 0) w
 stays:∀(P:Program) (w:World) (a:κ),(Instr.keyThatStays (enc a) (enc a)).run P w= .ok (enc a) w
theorem findNow_of {κ : Type} [DecidableEq κ] {enc : κ → Value} {d : TypeDesc} (hs : ∀ a b, Instr.sameNow d (enc a) (enc b) = some (decide (a = b))) (a : κ) : ∀ (es : List MapEntry) (ps : List (κ × Value)) (i : Nat), es.map (fun e => (e.key, e.val)) = ps.map (fun p => (enc p.1, p.2)) → Instr.findNow d (enc a) es i = some (mfind a ps i)
  | [], [], _, _ => rfl
  | [], _ :: _, _, h => by simp at h
  | _ :: _, [], _, h => by simp at h
  | e :: es, p :: ps, i, h => by
    simp only [List.map_cons, List.cons.injEq, Prod.mk.injEq] at h
    obtain ⟨⟨h1, h2⟩, h3⟩ := h
    unfold Instr.findNow mfind
    rw [h1, hs a p.1]
    by_cases hc : a = p.1
    · simp [hc, h2]
    · simp only [hc, decide_false, if_false]
      exact findNow_of hs a es ps (i + 1) h3
theorem same_of {κ:Type}[DecidableEq κ]{enc:κ→Value}{d:TypeDesc}(hk:∀a,MapKept.IsKey d (enc a))(inj:∀a b,enc a=enc b→a=b)(a b:κ):Instr.sameNow d (enc a) (enc b)=some (decide (a=b)):=by
 obtain⟨r,hr,hi⟩:=MapKept.sameNow_of_keys (hk a) (hk b)
 rw[hr]
 congr 1
 rw[Bool.eq_iff_iff,hi,decide_eq_true_eq]
 exact⟨inj a b,fun e=>by rw[e]⟩
theorem find_of {κ:Type}[DecidableEq κ]{enc:κ→Value}{P:Program}{k:TypeId}{d:TypeDesc}(hk:P.underlying k=some d)(hs:∀a b,Instr.sameNow d (enc a) (enc b)=some (decide (a=b)))(a:κ)(es:List MapEntry)(ps:List (κ×Value))(w:World)(h:es.map (fun e=>(e.key,e.val))=ps.map (fun p=>(enc p.1,p.2))):
  (Instr.findKey k (enc a) es).run P w= .ok (mfind a ps 0) w:=by
 simp[Instr.findKey,run_underlying hk,findNow_of hs a es ps 0 h,Result.andThen]
instance : MKey ByteArray where
 enc s:= .string s
 desc _ _ d:=d= .string
 check hk hd a e n w:=by subst hd;exact MapKept.run_checkKey (w:=w) hk (show MapKept.IsKey .string (.string a)from trivial) e (n+1)
 find hk hd a es ps w h:=by subst hd;exact find_of (enc:=fun s:ByteArray=> .string s) hk (same_of (enc:=fun s:ByteArray=> .string s) (fun _=>trivial) (fun a b h=>by injection h)) a es ps w h
 stays P w a:=MapKept.run_keyThatStays (P:=P) (w:=w) (d:= .string) (show MapKept.IsKey .string (.string a)from trivial)
instance : MKey Int where
 enc n:= .int .i64 n
 desc _ _ d:=d= .int .i64
 check hk hd a e n w:=by subst hd;exact MapKept.run_checkKey (w:=w) hk (show MapKept.IsKey (.int .i64) (.int .i64 a)from rfl) e (n+1)
 find hk hd a es ps w h:=by subst hd;exact find_of (enc:=fun n:Int=> .int .i64 n) hk (same_of (enc:=fun n:Int=> .int .i64 n) (fun _=>rfl) (fun a b h=>by injection h)) a es ps w h
 stays P w a:=MapKept.run_keyThatStays (P:=P) (w:=w) (d:= .int .i64) (show MapKept.IsKey (.int .i64) (.int .i64 a)from rfl)
section
variable {κ :Type}
def mget [DecidableEq κ](ps:List (κ×Value))(a:κ):Option Value:=(ps.find? (fun p=>decide (a=p.1))).map (·.2)
structure MapAt [DecidableEq κ][MKey κ](w:World)(m:Nat)(ps:List (κ×Value)):Prop where
 ex:∃(es:Array MapEntry) (clock:Nat),w.heap[m]? =some (.map es clock)∧es.toList.map (fun e=>(e.key,e.val))=ps.map (fun p=>(MKey.enc p.1,p.2))∧(es.toList.map (·.born)).Nodup∧(∀e∈es.toList,e.born<clock)
 nodup:(ps.map (·.1)).Nodup
variable {w w':World}{m:Nat}{ps:List (κ×Value)}{S:Nat→Prop}
theorem MapAt.lt [DecidableEq κ][MKey κ](h:MapAt w m ps):m<w.heap.size:=by obtain⟨⟨_,_,h,_⟩,_⟩:=h;exact lt_of_heap h
theorem MapAt.keep [DecidableEq κ][MKey κ](h:MapAt w m ps)(k:Keeps S w w')(hn:¬S m):MapAt w' m ps:=by
 have hl:=h.lt
 obtain⟨⟨es,c,h1,h2⟩,h3⟩:=h
 exact⟨⟨es,c,(k.block m hl hn).trans h1,h2⟩,h3⟩
theorem MapAt.ext [DecidableEq κ][MKey κ](h:MapAt w m ps)(k:Ext w w'):MapAt w' m ps:=h.keep k id
theorem mfind_get [DecidableEq κ] (a : κ) : ∀ (ps : List (κ × Value)) (i : Nat), (mfind a ps i).map (·.2) = mget ps a
  | [], _ => rfl
  | p :: ps, i => by
    unfold mfind mget
    rw [List.find?_cons]
    by_cases h : a = p.1
    · simp [h]
    · simp only [h, if_false, decide_false]
      exact mfind_get a ps (i + 1)
def mput [DecidableEq κ](ps:List (κ×Value))(a:κ)(v:Value):List (κ×Value):=match mfind a ps 0 with
 |some (i,_)=>ps.set i (a,v)
 |none=>ps++[(a,v)]
def mdel [DecidableEq κ](ps:List (κ×Value))(a:κ):List (κ×Value):=match mfind a ps 0 with
 |some (i,_)=>ps.eraseIdx i
 |none=>ps
theorem mfind_some [DecidableEq κ] {a : κ} : ∀ {ps : List (κ × Value)} {i k : Nat} {v : Value}, mfind a ps i = some (k, v) → ∃ j, k = i + j ∧ ps[j]? = some (a, v)
  | [], _, _, _, h => by simp [mfind] at h
  | p :: ps, i, k, v, h => by
    unfold mfind at h
    split at h
    · rename_i hc
      simp only [Option.some.injEq, Prod.mk.injEq] at h
      exact ⟨0, by omega, by simp [hc, ← h.2]⟩
    · obtain ⟨j, h1, h2⟩ := mfind_some h
      exact ⟨j + 1, by omega, by simpa using h2⟩
theorem mfind_none [DecidableEq κ] {a : κ} : ∀ {ps : List (κ × Value)} {i : Nat}, mfind a ps i = none → ∀ p ∈ ps, p.1 ≠ a
  | [], _, _, p, hp => by simp at hp
  | q :: ps, i, h, p, hp => by
    unfold mfind at h
    split at h
    · cases h
    · rename_i hc
      rcases List.mem_cons.1 hp with rfl | hp
      · exact fun e => hc e.symm
      · exact mfind_none h p hp
theorem keeps_set (w:World)(m:Nat)(o:Obj):Keeps (one m) w {w with heap:=w.heap.setIfInBounds m o}:=
 ⟨rfl,rfl,rfl,by simp,fun k _ hn=>by simp only[Array.getElem?_setIfInBounds];rw[if_neg (fun e=>hn e.symm)]⟩
theorem map_nodup_set {ps:List (κ×Value)}{j:Nat}{a:κ}{v u:Value}(h:ps[j]? =some (a,u)):(ps.set j (a,v)).map (·.1)=ps.map (·.1):=by
 rw[List.map_set]
 apply List.ext_getElem?
 intro k
 rw[List.getElem?_set]
 split
 ·rename_i e
  subst e
  rw[List.getElem?_map,h]
  simp only[Option.map_some,List.length_map]
  rw[if_pos (List.getElem?_eq_some_iff.1 h).1]
 ·rfl
theorem born_set {es:Array MapEntry}{j:Nat}{k v:Value}:((es.modify j (fun e=>{e with key:=k,val:=v})).toList.map (·.born))=es.toList.map (·.born):=by
 apply List.ext_getElem?
 intro i
 simp only[List.getElem?_map,Array.getElem?_toList,Array.getElem?_modify]
 split
 ·cases es[i]? <;>rfl
 ·rfl
section
variable {P :Program}{t k e:TypeId}{d:TypeDesc}{a:κ}{v:Value}
theorem run_update [DecidableEq κ] [MKey κ] (ht : P.underlying t = some (.map k e)) (hk : P.underlying k = some d) (hd : MKey.desc κ P k d) (h : MapAt w m ps) :
    ∃ w', (Instr.mapUpdate t (.map (some m)) (MKey.enc a) v).run P w = .ok () w' ∧ MapAt w' m (mput ps a v) ∧ Keeps (one m) w w' := by
  have hlt := h.lt
  obtain ⟨⟨es, c, h1, h2, h3, h4⟩, h5⟩ := h
  have hf := MKey.find hk hd a _ _ w h2
  have hc := MKey.check hk hd a false 9998 w
  cases hm : mfind a ps 0 with
  | none =>
    rw [hm] at hf
    refine ⟨{ w with heap := w.heap.setIfInBounds m (.map (es.push { key := MKey.enc a, val := v, born := c }) (c + 1)) }, by simp only [Instr.mapUpdate, Sem.run_bind, run_underlying ht, Result.andThen_ok, MapKept.run_getObj_map h1, hc, hf, MapKept.run_setObj_map _ h1], ?_, keeps_set w m _⟩
    have hno := mfind_none hm
    refine ⟨⟨_, _, by simp only [Array.getElem?_setIfInBounds, if_true, hlt]; rfl, ?_, ?_, ?_⟩, ?_⟩
    · simp only [mput, hm, Array.toList_push, List.map_append, h2, List.map_cons, List.map_nil]
    · simp only [Array.toList_push, List.map_append, List.map_cons, List.map_nil]
      rw [List.nodup_append]
      refine ⟨h3, by simp, ?_⟩
      intro x hx y hy
      simp only [List.mem_singleton] at hy
      obtain ⟨q, hq, rfl⟩ := List.mem_map.1 hx
      have := h4 q hq
      omega
    · intro x hx
      simp only [Array.toList_push, List.mem_append, List.mem_singleton] at hx
      rcases hx with hx | rfl
      · have := h4 x hx; omega
      · simp
    · simp only [mput, hm, List.map_append, List.map_cons, List.map_nil]
      rw [List.nodup_append]
      refine ⟨h5, by simp, ?_⟩
      intro x hx y hy
      simp only [List.mem_singleton] at hy
      obtain ⟨q, hq, rfl⟩ := List.mem_map.1 hx
      subst hy
      exact hno q hq
  | some r =>
    obtain ⟨i, u⟩ := r
    rw [hm] at hf
    obtain ⟨j, hj, hp⟩ := mfind_some hm
    simp only [Nat.zero_add] at hj
    subst hj
    have hes : (es.toList.map (fun e => (e.key, e.val)))[i]? = some (MKey.enc a, u) := by rw [h2, List.getElem?_map, hp]; rfl
    rw [List.getElem?_map, Option.map_eq_some_iff] at hes
    obtain ⟨e0, he0, he1⟩ := hes
    simp only [Prod.mk.injEq] at he1
    have he2 : es[i]? = some e0 := by rw [← Array.getElem?_toList]; exact he0
    have hst := MKey.stays P w a
    refine ⟨{ w with heap := w.heap.setIfInBounds m (.map (es.modify i (fun e => { e with key := MKey.enc a, val := v })) c) }, by simp only [Instr.mapUpdate, Sem.run_bind, run_underlying ht, Result.andThen_ok, MapKept.run_getObj_map h1, hc, hf, he2, Option.map_some, Option.getD_some, he1.1, hst, MapKept.run_setObj_map _ h1], ?_, keeps_set w m _⟩
    refine ⟨⟨_, _, by simp only [Array.getElem?_setIfInBounds, if_true, hlt]; rfl, ?_, ?_, ?_⟩, ?_⟩
    · simp only [mput, hm]
      apply List.ext_getElem?
      intro q
      simp only [List.getElem?_map, Array.getElem?_toList, Array.getElem?_modify, List.getElem?_set]
      have hlen : i < ps.length := (List.getElem?_eq_some_iff.1 hp).1
      by_cases hq : i = q
      · subst hq
        simp [he2, hlen]
      · have h2q := congrArg (fun l => l[q]?) h2
        simp only [List.getElem?_map, Array.getElem?_toList] at h2q
        simp only [hq, if_false]
        exact h2q
    · rw [born_set]; exact h3
    · intro x hx
      have hb : x.born ∈ es.toList.map (·.born) := by rw [← born_set (j := i) (k := MKey.enc a) (v := v)]; exact List.mem_map.2 ⟨x, hx, rfl⟩
      obtain ⟨y, hy, e1⟩ := List.mem_map.1 hb
      rw [← e1]
      exact h4 y hy
    · simp only [mput, hm]
      rw [map_nodup_set hp]
      exact h5
theorem run_lookup [DecidableEq κ] [MKey κ] (ht : P.underlying t = some (.map k e)) (hk : P.underlying k = some d) (hd : MKey.desc κ P k d) {size bytes : Nat} {z : Value} {agg : Bool} (he : Ty P e size bytes z agg) (h : MapAt w m ps) (ok : Bool) :
    (Instr.lookup t (.map (some m)) (MKey.enc a) ok).run P w = .ok (if ok then .tuple #[(mget ps a).getD z, .bool (mget ps a).isSome] else (mget ps a).getD z) w := by
  obtain ⟨⟨es, c, h1, h2, _⟩, _⟩ := h
  have hf := MKey.find hk hd a _ _ w h2
  have hc := MKey.check hk hd a es.isEmpty 9998 w
  have hg := mfind_get a ps 0
  cases hm : mfind a ps 0 with
  | none =>
    rw [hm] at hf hg
    rw [← hg]
    simp only [Instr.lookup, Sem.run_bind, run_underlying ht, Result.andThen_ok, MapKept.run_getObj_map h1, Sem.run_pure, hc, hf, he.run_zero, Option.map_none, Option.getD_none, Option.isSome_none]
  | some r =>
    obtain ⟨i, u⟩ := r
    rw [hm] at hf hg
    rw [← hg]
    simp only [Instr.lookup, Sem.run_bind, run_underlying ht, Result.andThen_ok, MapKept.run_getObj_map h1, Sem.run_pure, hc, hf, Option.map_some, Option.getD_some, Option.isSome_some]
structure IterAt [DecidableEq κ][MKey κ](w:World)(r m:Nat)(rest:List (κ×Value))(last:Option (κ×Value)):Prop where
 ex:∃(es:Array MapEntry) (clock since:Nat) (seen:Array Nat) (c0:Nat),w.heap[m]? =some (.map es clock)∧w.heap[r]? =some (.mapIter (some m) since seen c0)∧(∀e∈es.toList,e.born<since)∧since≤c0∧since≤clock∧(es.toList.map (·.born)).Nodup∧(leftOf es seen).toList.map (fun e=>(e.key,e.val))=rest.map (fun p=>(MKey.enc p.1,p.2))∧
  (∀p,last=some p→clock=c0∧∃b e,seen.back? =some b∧es.find? (·.born==b)=some e∧(e.key,e.val)=(MKey.enc p.1,p.2))
theorem IterAt.lt [DecidableEq κ][MKey κ]{r:Nat}{rest:List (κ×Value)}{last:Option (κ×Value)}(h:IterAt w r m rest last):r<w.heap.size∧m<w.heap.size:=by
 obtain⟨_,_,_,_,_,h1,h2,_⟩:=h;exact⟨lt_of_heap h2,lt_of_heap h1⟩
theorem IterAt.keep [DecidableEq κ][MKey κ]{r:Nat}{rest:List (κ×Value)}{last:Option (κ×Value)}(h:IterAt w r m rest last)(k:Keeps S w w')(hr:¬S r)(hm:¬S m):IterAt w' r m rest last:=by
 have hl:=h.lt
 obtain⟨es,c,si,se,c0,h1,h2,h3⟩:=h
 exact⟨es,c,si,se,c0,(k.block m hl.2 hm).trans h1,(k.block r hl.1 hr).trans h2,h3⟩
variable {n :FN}{ρ:Regs}{dst:Option Nat}{pos:String}{af:Array Edge}{g:Option (Nat×Bool)}{f:FuncId}{R:Ending→World→Prop}{kk:List Item}{K:Regs→World→Prop}{ty:TypeId}
theorem litV {v v':Value}{w1:World}{o:Oper}(h:X P n ρ o w v w1)(e:v=v'):X P n ρ o w v' w1:=e▸h
theorem IterAt.own_lt [DecidableEq κ][MKey κ]{r:Nat}{rest:List (κ×Value)}{last:Option (κ×Value)}(h:IterAt w r m rest last):∀q,one r q→q<w.heap.size:=fun q e=>by rw[show q=r from e];exact h.lt.1
theorem IterAt.ext [DecidableEq κ][MKey κ]{r:Nat}{rest:List (κ×Value)}{last:Option (κ×Value)}(h:IterAt w r m rest last)(k:Ext w w'):IterAt w' r m rest last:=h.keep k id id
theorem IterAt.keepO [DecidableEq κ][MKey κ]{r:Nat}{rest:List (κ×Value)}{last:Option (κ×Value)}(h:IterAt w r m rest last)(k:Keeps S w w')(hr:∀q,one r q→¬S q)(hm:∀q,one m q→¬S q):IterAt w' r m rest last:=h.keep k (hr r rfl) (hm m rfl)
theorem x_lookup [DecidableEq κ][MKey κ]{x ix:Operand}{size bytes:Nat}{z:Value}{agg:Bool}(ht:P.underlying t=some (.map k e))(hk:P.underlying k=some d)(hd:MKey.desc κ P k d)(he:Ty P e size bytes z agg)(hx:rd n ρ x= .map (some m))(hi:rd n ρ ix=MKey.enc a)(h:MapAt w m ps):
  X P n ρ ⟨dst,.lookup t x ix false,ty,pos,af,g⟩ w ((mget ps a).getD z) w:=by
 have:=run_lookup (a:=a) ht hk hd he h false
 simp[X,execOp,hx,hi,this]
theorem St1.mapUpdate [DecidableEq κ][MKey κ]{x ix y:Operand}(ht:P.underlying t=some (.map k e))(hk:P.underlying k=some d)(hd:MKey.desc κ P k d)(hx:rd n ρ x= .map (some m))(hi:rd n ρ ix=MKey.enc a)(hy:rd n ρ y=v)(h:MapAt w m ps)
  (hK:∀w',MapAt w' m (mput ps a v)→Keeps (one m) w w'→K ρ w'):St1 P f n R kk ⟨none,.mapUpdate t x ix y,ty,pos,af,none⟩ ρ w K:=by
 obtain⟨w',h1,h2,h3⟩:=run_update (a:=a) (v:=v) ht hk hd h
 refine St1.skip (w':=w') ?_ (hK w' h2 h3)
 simp[execOp,hx,hi,hy,h1]
structure IterM [DecidableEq κ][MKey κ](w:World)(r m:Nat)(ps rest:List (κ×Value))(last:Option (κ×Value)):Prop where
 map:MapAt w m ps
 it:IterAt w r m rest last
def iterS (r m:Nat):Nat→Prop:=fun q=>q=r∨q=m
theorem MapAt.own_lt [DecidableEq κ][MKey κ](h:MapAt w m ps):∀q,one m q→q<w.heap.size:=fun q e=>by rw[show q=m from e];exact h.lt
theorem MapAt.keepO [DecidableEq κ][MKey κ](h:MapAt w m ps)(k:Keeps S w w')(hn:∀q,one m q→¬S q):MapAt w' m ps:=h.keep k (hn m rfl)
theorem IterM.own_lt [DecidableEq κ][MKey κ]{r:Nat}{rest:List (κ×Value)}{last:Option (κ×Value)}(h:IterM w r m ps rest last):∀q,iterS r m q→q<w.heap.size:=by
 rintro q (rfl|rfl)
 ·exact h.it.lt.1
 ·exact h.it.lt.2
theorem IterM.keepO [DecidableEq κ][MKey κ]{r:Nat}{rest:List (κ×Value)}{last:Option (κ×Value)}(h:IterM w r m ps rest last)(k:Keeps S w w')(hn:∀q,iterS r m q→¬S q):IterM w' r m ps rest last:=
 ⟨h.map.keep k (hn m (.inr rfl)),h.it.keep k (hn r (.inl rfl)) (hn m (.inr rfl))⟩
theorem IterM.ext [DecidableEq κ][MKey κ]{r:Nat}{rest:List (κ×Value)}{last:Option (κ×Value)}(h:IterM w r m ps rest last)(k:Ext w w'):IterM w' r m ps rest last:=h.keepO k fun _ _=>id
theorem St1.makeMap [DecidableEq κ][MKey κ](hK:∀r w',w.heap.size≤r→MapAt w' r ([]:List (κ×Value))→Ext w w'→K (updo ρ dst (.map (some r))) w'):St1 P f n R kk ⟨dst,.makeMap t none,ty,pos,af,none⟩ ρ w K:=by
 refine St1.val (w':=w.alloc (.map #[] 0)) (by simp[execOp,Instr.makeMap,newObj,Sem.run]) (hK w.heap.size _ (Nat.le_refl _) ⟨⟨#[],0,heap_alloc_new w _,rfl,by simp,by simp⟩,by simp⟩ (Ext.push w _))
end
end
section
variable {P :Program}{f:FuncId}{n:FN}{R:Ending→World→Prop}{k:List Item}{ρ:Regs}{w:World}
variable {dst :Option Nat}{ty:TypeId}{pos:String}{af:Array Edge}{α:Type}[Enc α]{K:Regs→World→Prop}{g:Option (Nat×Bool)}
end
end Go.Proofs.YtocgdeefgohdhaaGreat
