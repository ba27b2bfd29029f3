/-
  Copy
-/
import Derived.Test.YtjkaicjmfgekjaaGreatDoorPcMap
import Derived.Laws.CopyRow
import Derived.Laws.Externs
set_option linter.all false
namespace Go.Proofs.YtjkaicjmfgekjaaGreatDoor
section
variable {P :Program}{f:FuncId}{n:FN}{R:Ending->World->Prop}{k:List Item}{ρ:Bd}{w:World}
variable {dst :Option Nat}{ty:TypeId}{pos:String}{af:Array Edge}{K:Bd->World->Prop}
def Dj {t e:TypeId}{x lo:Operand}{b o l c i size bytes:Nat}{z:Value}{agg:Bool}{kd:IntKind}{g:Option (Nat×Bool)}(ht:P.underlying t=some (.slice e))(he:Ty P e size bytes z agg)
  (hx:rd n ρ x= .slice (some ⟨b,o,none⟩) l c) (hi:rd n ρ lo= .int kd (i:Int)) (h1:i<=l) (h2:i<c) (h3:l<=c):
  X P n ρ ⟨dst,.slice t x (some lo) none none,ty,pos,af,g⟩ w (.slice (some ⟨b,o+i*size,none⟩) (l-i) (c-i)) w:=by
 have h:=Ww (P:=P) (n:=n) (ρ:=ρ) (w:=w) (dst:=dst) (ty:=ty) (pos:=pos) (af:=af) (g:=g) (i:=i) (j:=l) (lo:=some lo) (hi:=none) ht he hx ⟨kd,hi⟩ rfl h1 h3;rwa[if_neg Zo]at h
def So {dT sT elem:TypeId}{size bytes:Nat}{z:Value}{agg:Bool}(hu:P.underlying dT=some (.slice elem))(he:Ty P elem size bytes z agg){g o dLen dCap b o' sLen sCap:Nat}{cur cs:List Value}{T:TypeId}
  (hg:AC w g cur T) (hn:cs.length=Nat.min sLen dLen*size) (hc:Cl w b o' cs) (hfit:o+cs.length<=cur.length) (h1:∀v∈cs,v.oneCell'=true):
  (Builtin.copy_ #[dT,sT] ty #[.slice (some ⟨g,o,none⟩) dLen dCap,.slice (some ⟨b,o',none⟩) sLen sCap]).run P w=
   .ok (goInt (Nat.min sLen dLen)) (w.setRow g (cur.take o++cs++cur.drop (o+cs.length)).toArray):=by
 have hsrc:∀j v,cs[j]? =some v->w.cell? ((⟨b,o',none⟩:Addr).add j)=some v:=λj v hj=>by rw[Addr.add_lit];exact hc.cell hj
 have hl:=run_loadCells_list (P:=P) w ⟨b,o',none⟩ cs hsrc;have hst:=run_storeCells_at P g o T cs 0 cur.toArray w hg (by simpa using hfit) h1;obtain⟨i,hi,hz,hs,hb⟩:=he.info;simp only[Nat.add_zero]at hst;rw[hn]at hl;simp[Builtin.copy_,run_underlying hu,Builtin.lenOf,Builtin.firstCells,he.run_size,hl,hst]
def AB.copyK {t e:TypeId}{d s:Operand}{size bytes:Nat}{z:Value}{agg:Bool}(hu:P.underlying t=some (.slice e))(he:Ty P e size bytes z agg){g o dLen dCap b o' sLen sCap m:Nat}{cur cs:List Value}{T:TypeId}
  (hd:rd n ρ d= .slice (some ⟨g,o,none⟩) dLen dCap) (hs:rd n ρ s= .slice (some ⟨b,o',none⟩) sLen sCap) (hg:AC w g cur T) (hm:Nat.min sLen dLen=m) (hn:cs.length=m*size) (hc:Cl w b o' cs)
  (hfit:o+cs.length<=cur.length) (h1:∀v∈cs,v.oneCell'=true)
  (h:∀w',AC w' g (cur.take o++cs++cur.drop (o+cs.length)) T->Ae (one g) w w'->K (Bj ρ dst (.int .i64 m)) w'):
  AB P f n R k ⟨dst,.call {callee:= .builtin .copy,args:=#[d,s],argTypes:=#[t,t]},ty,pos,af,none⟩ ρ w K:=by
 subst hm;have hr:=So (P:=P) (ty:=ty) (dCap:=dCap) (sCap:=sCap) (sT:=t) hu he hg hn hc hfit h1;refine AB.val (v:=goInt (Nat.min sLen dLen)) (w':=w.setRow g (cur.take o++cs++cur.drop (o+cs.length)).toArray) ?_ (h _ (setRow_heap w g cur.toArray _ T _ hg) (Ae.setRow w g _));simp only[execOp,resolve,invoke,builtin,Sem.run_bind,Sem.run_pure,Result.andThen_ok,Aa9,Aaf,Aav,hd,hs,hr]
def AB.zerosOnto {t tn e:TypeId}{s x:Operand}{bytes:Nat}{z:Value}{agg:Bool}{kn:IntKind}{q cap:Nat}{a:Option Addr}{α:Type}[Enc α](ys:List α)
  (ht:P.underlying t=some (.slice e)) (htn:P.underlying tn=some (.int kn)) (he:Ty P e (Enc.size α) bytes z agg) (hzs:z.cells.size=Enc.size α)
  (hs:rd n ρ s= .slice a ys.length cap) (hx:rd n ρ x= .int .i64 (q:Int)) (hy:Ax w a ys) (h0:0<q) (hg:cap<ys.length+q) (hq:ys.length+q<=4294967296) (hb:bytes<=16384)
  (h:∀b cap' cur w',w.heap.size<=b->ys.length+q<=cap'->cap'<=maxLen->AC w' b cur e->cur.length=cap'*Enc.size α->cur.take (ys.length*Enc.size α)=AS ys->As w w'->K (Bj ρ dst (.slice (some ⟨b,0,none⟩) (ys.length+q) cap')) w'):
  AB P f n R k ⟨dst,.call {callee:= .builtin .append,args:=#[s,x],argTypes:=#[t,tn]},ty,pos,af,none⟩ ρ w K:=by
 obtain⟨i,hi,hz,hsz,hby⟩:=he.info;have hpos:=Enc.pos (α:=α);have hqb:(ys.length+q)*bytes<=4294967296*16384:=Nat.mul_le_mul hq hb;have hqb2:q*bytes<=(ys.length+q)*bytes:=AaZ _ Zo;have hold:(Builtin.firstCells i.size ys.length (.slice a ys.length cap)).run P w.drew= .ok (AS ys).toArray w.drew:=by
  rcases hy with rfl|⟨b,o,rfl,hc⟩
  ·cases a with
   |none=>simpa[AS]using run_firstCells_none (P:=P) w.drew i.size 0 0 cap
   |some ad=>exact run_firstCells_some (P:=P) w.drew i.size 0 ad 0 cap [] Zs Zs
  refine run_firstCells_some (P:=P) w.drew i.size ys.length ⟨b,o,none⟩ ys.length cap (AS ys) (by rw[AH,hsz]) λj v hj=> ?_;rw[Addr.add_lit];exact hc.cell hj
 have hr:=Lib.run_append_grow_zeros (P:=P) w t tn ty e i z .i64 kn ht htn hi hz a ys.length cap (AS ys) hold q h0 Zo hg Zo (by rw[hby];omega) (by rw[hby];exact Aaa (growslice_fits hg Zo) Zo);have hge:=grownCap_ge w (ys.length+q) cap e;have hcm:grownCap w (ys.length+q) cap e<=maxLen:=grownCap_le_maxLen w _ cap e (by simp only[maxLen];omega);refine AB.val (v:= .slice (some ⟨w.heap.size,0,none⟩) (ys.length+q) (grownCap w (ys.length+q) cap e)) (w':=w.drew.alloc (.cells ((AS ys).toArray++Builtin.zeroCells z.cells q++Builtin.zeroCells z.cells (grownCap w (ys.length+q) cap e-(ys.length+q))) e))
  (by simp only[execOp,resolve,invoke,builtin,Sem.run_bind,Sem.run_pure,Result.andThen_ok,Aa9,Aaf,Aav,hs,hx,hr])
  (h w.heap.size _ ((AS ys).toArray++Builtin.zeroCells z.cells q++Builtin.zeroCells z.cells (grownCap w (ys.length+q) cap e-(ys.length+q))).toList _ (Aac _) hge hcm ?_ ?_ ?_ ⟨rfl,rfl,rfl,by simp,λk hk _=>heap_alloc_old w.drew _ hk⟩)
 ·unfold AC;rw[Array.toArray_toList];exact heap_alloc_new w.drew _
 ·simp only[AaA,Ab6,Aa8,size_zeroCells,hzs,AH,<-Aa7];congr 1;omega
 rw[<-AH];simp
def AB.extn {g:FuncId}{ol:List Operand}{tys:Array TypeId}{vals:List Value}{v:Value}(hv:ol.map (rd n ρ)=vals)(hr:(callFunc g vals.toArray).run P w= .ok (.value v) w)
  (h:K (Bj ρ dst v) w):AB P f n R k ⟨dst,.call {callee:= .value (.func g),args:=ol.toArray,argTypes:=tys},ty,pos,af,none⟩ ρ w K:=by
 refine AB.val (v:=v) (w':=w) ?_ h;simp[execOp,resolve,rd,Deferred.ofValue,invoke,hv,hr]
end
end Go.Proofs.YtjkaicjmfgekjaaGreatDoor
