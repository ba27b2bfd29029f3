/-
  Slices
-/
import Derived.Test.YtjkaicjmfgekjaaGreatDoorPcSteps
import Derived.Great.BuildSlice
import Derived.Great.FillDense
import Derived.Laws.Tables
set_option linter.all false
namespace Go.Proofs.YtjkaicjmfgekjaaGreatDoor
def own (a:Option Addr):Nat->Prop:=λb=>∃x,a=some x/\x.block=b
def T8 (w:World)(a a':Option Addr):Prop:=∀x',a'=some x'->(∃x,a=some x/\x.block=x'.block)\/w.heap.size<=x'.block
def AR (w:World)(F F':Nat->Prop):Prop:=∀x,F' x->F x\/w.heap.size<=x
def I0 {w:World}{a a':Option Addr}(h:T8 w a a'):AR w (own a) (own a'):=by
 rintro x ⟨x',hx',rfl⟩;rcases h x' hx' with⟨y,hy,e⟩|h
 ·exact .inl ⟨y,hy,e⟩
 exact .inr h
def AR.refl (w:World)(F:Nat->Prop):AR w F F:=λ_ h=> .inl h
def AR.not {w:World}{F F':Nat->Prop}{b:Nat}(h:AR w F F')(h1:¬F b)(h2:b<w.heap.size):¬F' b:=λhb=>by
 rcases h b hb with h3|h3
 ·exact h1 h3
 omega
def AR.ge {w:World}{F F':Nat->Prop}{N:Nat}(h:AR w F F')(h1:∀b,F b->N<=b)(h2:N<=w.heap.size):∀b,F' b->N<=b:=λb hb=>by
 rcases h b hb with h3|h3
 ·exact h1 b h3
 omega
def AR.inS {w:World}{F F' S:Nat->Prop}{N:Nat}(h:AR w F F')(h1:∀b,F b->b<N->S b)(h2:N<=w.heap.size):∀b,F' b->b<N->S b:=λb hb hN=>by
 rcases h b hb with h3|h3
 ·exact h1 b h3 hN
 omega
def AR.apart {w:World}{F F' G:Nat->Prop}(h:AR w F F')(h1:∀b,F b->¬G b)(h2:∀b,G b->b<w.heap.size):∀b,F' b->¬G b:=λb hb hg=>by
 rcases h b hb with h3|h3
 ·exact h1 b h3 hg
 have:=h2 b hg;omega
def AR.trans {w w':World}{F F' F'':Nat->Prop}(h:AR w F F')(h':AR w' F' F'')(hs:w.heap.size<=w'.heap.size):AR w F F'':=λx hx=>by
 rcases h' x hx with h1|h1
 ·exact h x h1
 exact .inr Zo
def Ay {N x:Nat}{F:Nat->Prop}(h:∀b,F b->N<=b)(hx:x<N):¬F x:=λhb=>by have:=h x hb;omega
def Ag {N:Nat}{F G:Nat->Prop}(h:∀b,F b->N<=b)(hg:∀b,G b->b<N):∀b,F b->¬G b:=λb h1 h2=>by have:=h b h1;have:=hg b h2;omega
def Ad (b:Nat):¬own none b:=by rintro⟨x,h,_⟩;cases h
def CS {x:Addr}{b:Nat}:own (some x) b↔x.block=b:=by simp[own]
section
variable {P :Program}{w:World}{α:Type}[Enc α]
def Ua (ys:List α):((ys.map Enc.val).flatMap λv=>v.cells.toList)=AS ys:=by
 simp only[AS,List.flatMap_map];rfl
def Ub (y:α):(Enc.val y).cells.size=Enc.size α:=by have:=AI y;simpa[cellsOf]using this
def run_buildSlice {t e:TypeId}{bytes:Nat}{z:Value}{agg:Bool}(ht:P.underlying t=some (.slice e))(he:Ty P e (Enc.size α) bytes z agg)(ys:List α)(parts:Array (Nat×Value))
  (hp:parts.toList=((ys.map Enc.val).zipIdx 0).map λx=>(x.2,x.1)) (hl:ys.length*Enc.size α<=16777216):
  (Instr.buildSlice t ys.length parts).run P w= .ok (.slice (some ⟨w.heap.size,0,none⟩) ys.length ys.length) {w with heap:=w.heap.push (.cells (AS ys).toArray e)}:=by
 obtain⟨i,hi,hz,hs,_⟩:=he.info;have hpos:=Enc.pos (α:=α);by_cases h0:ys.length=0
 ·have:ys=[]:=AaM h0
  subst this;simp only[Aav,List.zipIdx_nil]at hp;have hp':parts=#[]:=Array.toList_inj.1 hp;subst hp';have hr:Array.range 0=#[]:=rfl;simp[Instr.buildSlice,run_underlying ht,he.run_size,Instr.fill,newRow,AS,hr]
 have hw:=Great.fill_whole (s:=Enc.size α) hpos (ys.map Enc.val) ((Array.range (ys.length*Enc.size α)).map (z.cells[·%z.cells.size]!)) (by
  intro v hv;simp only[Aae]at hv;obtain⟨y,_,rfl⟩:=hv;exact Ub y) Zs
 rw[<-hp,Ua]at hw;have hm:¬ys.length*Enc.size α=0:=by
  intro h;rcases Nat.mul_eq_zero.1 h with h|h<;>omega
 have:=Go.run_buildSlice (P:=P) w t e ys.length parts (AS ys).toArray i z ht hi hz (by rw[hs];omega) (by rw[hs];exact hm) (by rw[hs];exact hw)
 exact this
def Kx (w:World)(e:TypeId)(ys:List α)(hl:ys.length<=maxLen):Af {w with heap:=w.heap.push (.cells (AS ys).toArray e)} e (some ⟨w.heap.size,0,none⟩) ys.length ys:=
 ⟨by simp[AH],.inr ⟨w.heap.size,ys.length,(AS ys).toArray,rfl,Aal _,by simp,Aac _,hl,by simp[AH],by simp[<-AH]⟩⟩
def Ky {t e:TypeId}{ty:TypeId}{bytes:Nat}{z:Value}{agg:Bool}(ht:P.underlying t=some (.slice e))(he:Ty P e (Enc.size α) bytes z agg)(hzs:z.cells.size=Enc.size α)
  {a c:Option Addr} {cap cap2:Nat} {xs ys:List α} (hown:Af w e a cap xs) (hys:Ax w c ys) (h63:xs.length+ys.length<=maxLen) (hb:(xs.length+ys.length)*bytes<=140737488355328):
  ∃a' cap' w',(Builtin.append_ #[t,t] ty #[.slice a xs.length cap,.slice c ys.length cap2]).run P w= .ok (.slice a' (xs++ys).length cap') w'/\Af w' e a' cap' (xs++ys)/\Ae (own a) w w'/\T8 w a a'/\(xs.length+ys.length<=cap->a'=a/\cap'=cap):=by
 obtain⟨i,hi,hz,hs,hby⟩:=he.info;have hsmall:((xs.length+ys.length:Nat):Int)<=9223372036854775807:=by simp only[maxLen]at h63;omega
 have hlen:(AS xs++AS ys).length=(xs.length+ys.length)*Enc.size α:=by rw[Aab,AH,AH,Aa7]
 --nothing is appended out of nothing
 by_cases hn:c=none
 ·subst hn;have hy:ys=[]:=by
   rcases hys with h|⟨b,o,h,_⟩
   ·exact h
   cases h
  subst hy;have hle:xs.length<=cap:=by
   rcases hown.cases with⟨_,_,h⟩|⟨_,_,_,_,h,_⟩
   ·simp[h]
   exact h
  refine⟨a,cap,w,?_,by simpa using hown,Ae.refl _ w,λx' hx'=> .inl ⟨x',hx',rfl⟩,λ_=>⟨rfl,rfl⟩⟩;cases a<;>simp[Builtin.append_,run_underlying ht,he.run_size,Builtin.lenOf,hle,Builtin.firstCells,storeCells]
 obtain⟨ad,hc⟩:∃ad,c=some ad:=by cases c with|none=>exact absurd rfl hn|some ad=>exact⟨ad,rfl⟩
 subst hc;have hnews:∀j u,(AS ys)[j]? =some u->w.cell? (ad.add j)=some u:=by
  intro j u hu;rcases hys with rfl|⟨b,o,h,hcl⟩
  ·simp[AS]at hu
  simp only[Option.some.injEq]at h;subst h;rw[Addr.add_lit];exact hcl.cell hu
 have hl:(AS ys).length=ys.length*i.size:=by rw[AH,hs]
 have hlo:(AS xs).length=xs.length*i.size:=by rw[AH,hs]
 have grown:∀(old:Nat),old<xs.length+ys.length->
   Af (w.drew.alloc (.cells ((AS xs).toArray++(AS ys).toArray++Builtin.zeroCells z.cells (grownCap w (xs.length+ys.length) old e-(xs.length+ys.length))) e)) e
    (some ⟨w.heap.size,0,none⟩) (grownCap w (xs.length+ys.length) old e) (xs++ys)/\
   Ae (own a) w (w.drew.alloc (.cells ((AS xs).toArray++(AS ys).toArray++Builtin.zeroCells z.cells (grownCap w (xs.length+ys.length) old e-(xs.length+ys.length))) e)):=by
  intro old ho;have hge:=grownCap_ge w (xs.length+ys.length) old e;have hcm:grownCap w (xs.length+ys.length) old e<=maxLen:=grownCap_le_maxLen w _ old e h63;refine⟨⟨AH _,.inr ⟨w.heap.size,_,_,by rw[Aab],Aal _,heap_alloc_new w.drew _,by rw[Aab];exact hge,hcm,?_,?_⟩⟩,
   ⟨rfl,rfl,rfl,by simp,λk hk _=>heap_alloc_old w.drew _ k hk⟩⟩
  ·simp only[Ab6,Aa8,size_zeroCells,hzs,AH,<-Aa7];congr 1;omega
  simp only[Array.toList_append,Aar];rw[<-Aar,Aab,<-hlen,AbH,Eb]
 rcases hown.cases with⟨rfl,rfl,rfl⟩|⟨g,cur,rfl,hg,hnc,hcm,hcs,htake⟩
 ·by_cases hm:ys.length=0
  ·have hy:ys=[]:=AaM hm;subst hy;refine⟨none,0,w,?_,hown,Ae.refl _ w,(λx' hx'=>by cases hx'),λ_=>⟨rfl,rfl⟩⟩;simp[Builtin.append_,run_underlying ht,he.run_size,Builtin.lenOf,Builtin.firstCells,loadCells,loadCellsFrom]
  have hr:=run_append_nil (P:=P) w t ty e i z ht hi hz ad ys.length cap2 (AS ys) hl hnews Zo Zo (by simp only[Aas,Aaq]at hb;rw[hby];omega);have hgr:=grown 0 Zi;simp only[Aas,Aaq,Aay,AS,AbQ,Array.empty_append]at hgr hr⊢;exact⟨_,_,_,hr,hgr.1,hgr.2,(λx' hx'=> .inr (by simp only[Option.some.injEq]at hx';subst hx';exact Aac _)),λh=>absurd h Zo⟩
 by_cases hroom:xs.length+ys.length<=cap
 ·have hfit:xs.length*i.size+(AS ys).length<=cur.size:=by rw[hl,hcs,hs,<-Aa7];exact AaZ _ hroom
  have hr:=run_append_room (P:=P) w t ty e i ht hi g xs.length cap cur hg ad ys.length cap2 (AS ys) hl hnews (HL ys) hroom hfit;refine⟨some ⟨g,0,none⟩,cap,_,by rw[Aab];exact hr,⟨AH _,.inr ⟨g,cap,_,rfl,Aal _,setRow_heap w g cur _ e _ hg,by rw[Aab];exact hroom,hcm,?_,?_⟩⟩,
   ⟨rfl,rfl,rfl,by simp,λk _ hk=>setRow_other w g k _ (λe=>hk (CS.2 e.symm))⟩,λx' hx'=> .inl ⟨x',hx',rfl⟩,λ_=>⟨rfl,rfl⟩⟩
  ·simp only[Aa8,Aab,List.length_take,List.length_drop,AaA];rw[hs]at hfit⊢;omega
  rw[hs,htake,Aab,<-hlen,AbH,Eb]
 have holds:∀j u,(AS xs)[j]? =some u->w.cell? ((⟨g,0,none⟩:Addr).add j)=some u:=λj u hu=>by
  rw[Addr.add_lit];rcases hown.sl with h|⟨b,o,h,hcl⟩
  ·subst h;simp[AS]at hu
  simp only[Option.some.injEq,Addr.mk.injEq]at h;obtain⟨rfl,rfl,_⟩:=h;exact hcl.cell hu
 have hr:=run_append_grow (P:=P) w t ty e i z ht hi hz ⟨g,0,none⟩ xs.length cap (AS xs) hlo holds ad ys.length cap2 (AS ys) hl hnews Zo hsmall (by rw[hby];exact growslice_fits Zo hb);have hgr:=grown cap Zo;exact⟨_,_,_,by rw[Aab];exact hr,hgr.1,hgr.2,(λx' hx'=> .inr (by simp only[Option.some.injEq]at hx';subst hx';exact Aac _)),λh=>absurd h hroom⟩
end
section
variable {P :Program}{f:FuncId}{n:FN}{R:Ending->World->Prop}{k:List Item}{ρ:Bd}{w:World}
variable {dst :Option Nat}{ty:TypeId}{pos:String}{af:Array Edge}{α:Type}[Enc α]{K:Bd->World->Prop}
def AB.buildSlice {t e:TypeId}{bytes len:Nat}{z:Value}{agg:Bool}{parts:List (Nat×Operand)}(ys:List α)(ht:P.underlying t=some (.slice e))(he:Ty P e (Enc.size α) bytes z agg)
  (hlen:len=ys.length) (hp:(parts.map λ(i,x)=>(i,rd n ρ x))=((ys.map Enc.val).zipIdx 0).map λx=>(x.2,x.1)) (hl:ys.length*Enc.size α<=16777216)
  (h:∀b w',w.heap.size<=b->Af w' e (some ⟨b,0,none⟩) ys.length ys->As w w'->K (Bj ρ dst (.slice (some ⟨b,0,none⟩) ys.length ys.length)) w'):
  AB P f n R k ⟨dst,.buildSlice t len parts.toArray,ty,pos,af,none⟩ ρ w K:=by
 subst hlen;have hpos:=Enc.pos (α:=α);have hm:ys.length<=ys.length*Enc.size α:=Nat.le_mul_of_pos_right _ hpos;have hr:=run_buildSlice (P:=P) (w:=w) ht he ys (parts.toArray.map λ(i,x)=>(i,rd n ρ x)) (by simpa using hp) hl;refine AB.val (v:= .slice (some ⟨w.heap.size,0,none⟩) ys.length ys.length) (w':={w with heap:=w.heap.push (.cells (AS ys).toArray e)}) ?_ (h _ _ (Aac _) (Kx w e ys (by simp only[maxLen];omega)) (As.push w _));simp only[execOp,Sem.run_bind,hr,Result.andThen_ok,Sem.run_pure]
def AB.append {t e:TypeId}{s x:Operand}{bytes:Nat}{z:Value}{agg:Bool}{a c:Option Addr}{cap cap2:Nat}{xs ys:List α}
  (ht:P.underlying t=some (.slice e)) (he:Ty P e (Enc.size α) bytes z agg) (hzs:z.cells.size=Enc.size α)
  (hs:rd n ρ s= .slice a xs.length cap) (hx:rd n ρ x= .slice c ys.length cap2) (hown:Af w e a cap xs) (hys:Ax w c ys)
  (h63:xs.length+ys.length<=4294967296) (hb:bytes<=16384)
  (h:∀a' cap' w',Af w' e a' cap' (xs++ys)->Ae (own a) w w'->AR w (own a) (own a')->(xs.length+ys.length<=cap->a'=a/\cap'=cap)->K (Bj ρ dst (.slice a' (xs++ys).length cap')) w'):
  AB P f n R k ⟨dst,.call {callee:= .builtin .append,args:=#[s,x],argTypes:=#[t,t]},ty,pos,af,none⟩ ρ w K:=by
 obtain⟨a',cap',w',hr,h1,h2,h3,h4⟩:=Ky (P:=P) (w:=w) (ty:=ty) (cap2:=cap2) ht he hzs hown hys (by simp only[maxLen];omega) (by
  have:(xs.length+ys.length)*bytes<=4294967296*16384:=Nat.mul_le_mul h63 hb
  omega)
 refine AB.val (v:= .slice a' (xs++ys).length cap') (w':=w') ?_ (h a' cap' w' h1 h2 (I0 h3) h4);simp only[execOp,resolve,invoke,builtin,Sem.run_bind,Sem.run_pure,Result.andThen_ok,Aa9,Aaf,Aav,hs,hx,hr]
def AO {t:TypeId}{parts:List (Nat×Operand)}{cells:Array Value}{g:Option (Nat×Bool)}(hb:P.built t (parts.map λ(i,x)=>(i,rd n ρ x))=some cells):
  X P n ρ ⟨dst,.build t parts.toArray,ty,pos,af,g⟩ w (.agg cells) w:=by
 have hr:=run_build (P:=P) w t (parts.toArray.map λ(i,x)=>(i,rd n ρ x)) cells (by simpa using hb);simp only[X,execOp,Sem.run_bind,hr,Result.andThen_ok,Sem.run_pure]
def Ww {t e:TypeId}{x:Operand}{lo hi:Option Operand}{b o l c size bytes:Nat}{z:Value}{agg:Bool}{i j:Nat}{g:Option (Nat×Bool)}(ht:P.underlying t=some (.slice e))(he:Ty P e size bytes z agg)
  (hx:rd n ρ x= .slice (some ⟨b,o,none⟩) l c)
  (hlo:match lo with|none=>i=0|some y=>∃kd,rd n ρ y= .int kd (i:Int)) (hhi:match hi with|none=>j=l|some y=>∃kd,rd n ρ y= .int kd (j:Int)) (h1:i<=j) (h2:j<=c):
  X P n ρ ⟨dst,.slice t x lo hi none,ty,pos,af,g⟩ w (.slice (some ⟨b,if c=i then o else o+i*size,none⟩) (j-i) (c-i)) w:=by
 have hl:lo=none/\i=0\/∃y kd,lo=some y/\rd n ρ y= .int kd (i:Int):=by
  cases lo with
  |none=>exact .inl ⟨rfl,hlo⟩
  |some y=>obtain⟨kd,h⟩:=hlo;exact .inr ⟨y,kd,rfl,h⟩
 have hh:hi=none/\j=l\/∃y kd,hi=some y/\rd n ρ y= .int kd (j:Int):=by
  cases hi with
  |none=>exact .inl ⟨rfl,hhi⟩
  |some y=>obtain⟨kd,h⟩:=hhi;exact .inr ⟨y,kd,rfl,h⟩
 have hi0:((i:Int)<=(j:Int)):=by omega
 have hj0:((j:Int)<=(c:Int)):=by omega
 have key:∀(lo' hi':Option Value),(lo'=none/\i=0\/∃kd,lo'=some (.int kd (i:Int)))->(hi'=none/\j=l\/∃kd,hi'=some (.int kd (j:Int)))->
   (Instr.sliceBounds true l c lo' hi' none).run P w= .ok (i,j,c) w:=by
  rintro lo' hi' (⟨rfl,rfl⟩|⟨kd,rfl⟩) (⟨rfl,rfl⟩|⟨kd',rfl⟩)<;>simp[Instr.sliceBounds,Instr.sliceBound,asIntOf,h1,h2]
 have hb:=key (lo.map (rd n ρ)) (hi.map (rd n ρ)) (by rcases hl with⟨rfl,h⟩|⟨y,kd,rfl,h⟩<;>simp[h]) (by rcases hh with⟨rfl,h⟩|⟨y,kd,rfl,h⟩<;>simp[h]);simp only[X,execOp,hx,Instr.sliceAt,Sem.run_bind,run_underlying ht,Result.andThen_ok,Instr.slice,AbR,hb,he.run_size,Sem.run_pure];by_cases hc:c=i<;>simp[hc,Addr.add_lit]
def AY {t e:TypeId}{x ix:Operand}{a:Option Addr}{b o l c size bytes:Nat}{z:Value}{agg:Bool}{kd:IntKind}{i:Nat}{g:Option (Nat×Bool)}(ht:P.underlying t=some (.slice e))(he:Ty P e size bytes z agg)
  (hx:rd n ρ x= .slice a l c) (hi:rd n ρ ix= .int kd (i:Int)) (ha:a=some ⟨b,o,none⟩) (h1:i<l):
  X P n ρ ⟨dst,.indexAddr t x ix,ty,pos,af,g⟩ w (.pointer (some ⟨b,o+i*size,none⟩)) w:=by
 subst ha;exact X5 ht he hx hi Zo Zo
end
section
variable {P :Program}{n:FN}{ρ:Bd}{w:World}{dst:Option Nat}{ty:TypeId}{pos:String}{af:Array Edge}
def HO {t e:TypeId}{x ix:Operand}{a:Option Addr}{b o l c size bytes:Nat}{z:Value}{agg:Bool}{kd:IntKind}{i:Int}{g:Option (Nat×Bool)}(ht:P.underlying t=some (.slice e))(he:Ty P e size bytes z agg)
  (hx:rd n ρ x= .slice a l c) (hi:rd n ρ ix= .int kd i) (ha:a=some ⟨b,o,none⟩) (h0:0<=i) (h1:i.toNat<l):
  X P n ρ ⟨dst,.indexAddr t x ix,ty,pos,af,g⟩ w (.pointer (some ⟨b,o+i.toNat*size,none⟩)) w:=by
 subst ha;exact X5 ht he hx hi h0 Zo
end
section
variable {P :Program}{n:FN}{ρ:Bd}{w:World}{dst:Option Nat}{ty:TypeId}{pos:String}{af:Array Edge}
def B7 {t e:TypeId}{x hi:Operand}{a:Option Addr}{l c j size bytes:Nat}{z:Value}{agg:Bool}{kd:IntKind}{g:Option (Nat×Bool)}(ht:P.underlying t=some (.slice e))(he:Ty P e size bytes z agg)
  (hx:rd n ρ x= .slice a l c) (hj:rd n ρ hi= .int kd (j:Int)) (h:j<=c):
  X P n ρ ⟨dst,.slice t x none (some hi) none,ty,pos,af,g⟩ w (.slice a j c) w:=by
 have hb:(Instr.sliceBounds true l c none (some (.int kd (j:Int))) none).run P w= .ok (0,j,c) w:=by simp[Instr.sliceBounds,Instr.sliceBound,asIntOf,h]
 simp only[X,execOp,hx,Instr.sliceAt,Sem.run_bind,run_underlying ht,Result.andThen_ok,Instr.slice,AbR,AaL,hj,hb,he.run_size,Sem.run_pure];cases a with
 |none=>simp
 |some a=>by_cases hc:c=0<;>simp[hc,Addr.add]
end
def Du {N b:Nat}(h:N<=b):∀x,own (some ⟨b,0,none⟩) x->N<=x:=λx h1=>by have:=CS.1 h1;simp only at this;omega
def Af.oL {α:Type}[Enc α]{w:World}{T:TypeId}{a:Option Addr}{cap:Nat}{xs:List α}(h:Af w T a cap xs):∀b,own a b->b<w.heap.size:=by
 rintro b ⟨x,hx,rfl⟩;exact h.lt hx
def Af.kO {α:Type}[Enc α]{S:Nat->Prop}{w w':World}{T:TypeId}{a:Option Addr}{cap:Nat}{xs:List α}(h:Af w T a cap xs)(k:Ae S w w')(hn:∀b,own a b->¬S b):Af w' T a cap xs:=
 h.keep k λx hx=>hn _ ⟨x,hx,rfl⟩
end Go.Proofs.YtjkaicjmfgekjaaGreatDoor
