/-
  Yh, Yi, Ka, Kb
-/
import Derived.Test.YtjkaicjmfgekjaaGreatDoorRows
import Derived.Test.YtjkaicjmfgekjaaGreatDoorPkYe
import Derived.Test.YtjkaicjmfgekjaaGreatDoorPkDefer
import Derived.Test.YtjkaicjmfgekjaaGreatDoorPkI
set_option linter.all false
set_option maxRecDepth 100000
set_option maxHeartbeats 4000000
namespace Go.Proofs.YtjkaicjmfgekjaaGreatDoor
open Go.Proofs.Tryz
attribute [local irreducible] RD RS Av RL RA RT CJ Aj
attribute [local irreducible] crcN B6 B3 E1 BV leL Cm Ak Az Di Dt DZ Em C4
attribute [local irreducible] Au DL AH
def mayL :List (List UInt8)→Int
 |[]=>0
 |b::r=>if DL b≠0 then DL b else mayL r
def allB (rs:List RB)(j:Nat):List UInt8:=AH []++((rs.map RB.b).take j).flatMap AH
noncomputable def replaceP (room:Int)(pl:List PF)(bs:List (List UInt8)):Int×List PF:=
 if mayL bs≠0 then(mayL bs,pl)else if 999999999<AW pl+1 then(70,pl)else
 if (Cc room pl (AH []++bs.flatMap AH) (AW pl+1)).1=0 then(0,Dk (Cc room pl (AH []++bs.flatMap AH) (AW pl+1)).2 (Az pl))
 else((Cc room pl (AH []++bs.flatMap AH) (AW pl+1)).1,A3 (Cc room pl (AH []++bs.flatMap AH) (AW pl+1)).2 freshN)
end Go.Proofs.YtjkaicjmfgekjaaGreatDoor
namespace Go.Proofs.YtjkaicjmfgekjaaGreatDoor
open Go.Proofs.Tryz
attribute [local irreducible] RD RS Av RL RA RT CJ Aj
attribute [local irreducible] crcN B6 B3 E1 BV leL Cm Ak Az Di Dt DZ Em C4
attribute [local irreducible] Au DL AH
def GY (i:Nat)(rs:List (List UInt8))(s:Nat):PF:=⟨Ak (i:Int),rs.flatMap AH,s⟩
def D1 (rs:List (List UInt8)):Nat:=(rs.flatMap AH).length
def doneL :Nat→List (List (List UInt8))→List PF
 |_,[]=>[]
 |i,rs::t=>GY i rs (D1 rs)::doneL (i+1) t
def GZ (i:Nat)(c:List (List UInt8))(s:Nat):List PF:=if c=[]then[]else[GY i c s]
def De (D:List (List (List UInt8)))(c:List (List UInt8))(s:Nat):List PF:=doneL 1 D++GZ (D.length+1) c s
def B9 (D:List (List (List UInt8)))(c:List (List UInt8)):Nat:=D.length+if c=[]then 0 else 1
theorem doneL_app : ∀ (D : List (List (List UInt8))) (i : Nat) (rs : List (List UInt8)), doneL i (D ++ [rs]) = doneL i D ++ [GY (i + D.length) rs (D1 rs)]
  | [], i, rs => by simp [doneL]
  | x :: D, i, rs => by
    rw [List.cons_append, doneL, doneL, doneL_app D (i + 1) rs, List.cons_append, List.length_cons, show i + 1 + D.length = i + (D.length + 1) by omega]
theorem doneL_len :∀(D:List (List (List UInt8))) (i:Nat),(doneL i D).length=D.length
 |[],_=>rfl
 |x::D,i=>by rw[doneL,List.length_cons,doneL_len D,List.length_cons]
theorem doneL_mem : ∀ {D : List (List (List UInt8))} {i : Nat} {f : PF}, f ∈ doneL i D → ∃ k rs, k < D.length ∧ D[k]? = some rs ∧ f = GY (i + k) rs (D1 rs)
  | [], _, _, h => by cases h
  | x :: D, i, f, h => by
    rw [doneL] at h
    rcases List.mem_cons.1 h with rfl | h
    · exact ⟨0, x, by simp, rfl, rfl⟩
    · obtain ⟨k, rs, h1, h2, h3⟩ := doneL_mem h
      exact ⟨k + 1, rs, by simp; omega, by simpa using h2, by rw [h3, show i + 1 + k = i + (k + 1) by omega]⟩
theorem doneL_get : ∀ {D : List (List (List UInt8))} {i k : Nat} {rs : List (List UInt8)}, D[k]? = some rs → GY (i + k) rs (D1 rs) ∈ doneL i D
  | [], _, _, _, h => by simp at h
  | x :: D, i, 0, rs, h => by
    simp at h; subst h
    rw [doneL]; simp
  | x :: D, i, k + 1, rs, h => by
    rw [doneL]
    have := doneL_get (i := i + 1) (k := k) (by simpa using h)
    rw [show i + 1 + k = i + (k + 1) by omega] at this
    exact List.mem_cons_of_mem _ this
section
variable {D :List (List (List UInt8))}{c:List (List UInt8)}{s:Nat}
theorem L9 {f:PF}(h:f∈De D c s):∃k:Nat,1≤k∧k≤B9 D c∧f.name=Ak (k:Int):=by
 rw[De]at h
 rcases List.mem_append.1 h with h|h
 ·obtain⟨k,rs,h1,h2,rfl⟩:=doneL_mem h
  exact⟨1+k,by omega,by rw[B9];omega,rfl⟩
 ·rw[GZ]at h
  split at h
  ·cases h
  ·rename_i hc
   simp only[List.mem_singleton]at h
   subst h
   exact⟨D.length+1,by omega,by rw[B9,if_neg hc];omega,rfl⟩
theorem Ma {k:Nat}(h1:1≤k)(h2:k≤B9 D c):B7 (De D c s) (Ak (k:Int))=true:=by
 by_cases hk:k≤D.length
 ·obtain⟨rs,hr⟩:∃rs,D[k-1]? =some rs:=⟨_,List.getElem?_eq_getElem Zo⟩
  have:=doneL_get (i:=1) hr
  rw[show 1+(k-1)=k by omega]at this
  exact Ba.2 ⟨_,List.mem_append_left _ this,rfl⟩
 ·have hc:c≠ []:=fun e=>by rw[B9,if_pos e]at h2;omega
  rw[B9,if_neg hc]at h2
  have:k=D.length+1:=by omega
  subst this
  exact Ba.2 ⟨GY (D.length+1) c s,List.mem_append_right _ (by rw[GZ,if_neg hc];simp),rfl⟩
theorem G1 {i j:Nat}(h1:1≤i)(h2:i≤999999999)(h3:1≤j)(h4:j≤999999999)(e:Ak (i:Int)=Ak (j:Int)):i=j:=by
 have:=FM (n:=(i:Int)) (m:=(j:Int)) Zo Zo Zo Zo e
 omega
theorem done_nodup : ∀ (D : List (List (List UInt8))) (i : Nat), 1 ≤ i → i + D.length ≤ 999999999 → ((doneL i D).map (·.name)).Nodup
  | [], _, _, _ => by simp [doneL]
  | x :: D, i, h1, h2 => by
    rw [doneL, List.map_cons, List.nodup_cons]
    simp only [List.length_cons] at h2
    refine ⟨fun h => ?_, done_nodup D (i + 1) Zo Zo⟩
    obtain ⟨f, hf, e⟩ := List.mem_map.1 h
    obtain ⟨k, rs, hk, _, rfl⟩ := doneL_mem hf
    have := G1 Zo Zo h1 Zo (show Ak ((i + 1 + k : Nat) : Int) = Ak (i : Int) from e)
    omega
theorem I4 (h:B9 D c≤999999998):((De D c s).map (·.name)).Nodup:=by
 have hD:D.length≤B9 D c:=by rw[B9];omega
 rw[De,List.map_append,List.nodup_append]
 refine⟨done_nodup D 1 Zd Zo,?_,?_⟩
 ·rw[GZ];split<;>simp
 ·intro a ha b hb e
  subst e
  rw[GZ]at hb
  split at hb
  ·simp at hb
  ·rename_i hc
   rw[B9,if_neg hc]at h
   obtain⟨f,hf,rfl⟩:=List.mem_map.1 ha
   obtain⟨k,rs,hk,_,rfl⟩:=doneL_mem hf
   simp only[List.map_cons,List.map_nil,List.mem_singleton]at hb
   have:=G1 Zo Zo Zo Zo (show Ak ((1+k:Nat):Int)=Ak ((D.length+1:Nat):Int)from hb)
   omega
theorem Kh {l m:List Int}(h1:l.Pairwise (·<·))(h2:m.Pairwise (·<·))(h:∀x,x∈l↔x∈m):l=m:=
 sorted_unique ((List.perm_ext_iff_of_nodup (h1.imp fun{a b} h e=>by omega) (h2.imp fun{a b} h e=>by omega)).2 h) (h1.imp fun h=>by omega) (h2.imp fun h=>by omega)
def Vu (n:Nat):List Int:=(List.range n).map fun k=>((k+1:Nat):Int)
theorem Rj (n:Nat):(Vu n).Pairwise (·<·):=by
 rw[Vu,List.pairwise_map]
 exact List.pairwise_lt_range.imp fun h=>by omega
theorem Tr {n:Nat}{x:Int}:x∈Vu n↔1≤x∧x≤n:=by
 rw[Vu,List.mem_map]
 constructor
 ·rintro⟨k,hk,rfl⟩
  have:=List.mem_range.1 hk
  omega
 ·rintro⟨h1,h2⟩
  exact⟨x.toNat-1,List.mem_range.2 Zo,by omega⟩
theorem Rk (h:B9 D c≤999999998):Az (De D c s)=Vu (B9 D c):=by
 refine Kh (Gz (I4 h)) (Rj _) fun x=> ?_
 rw[B5,Tr]
 constructor
 ·rintro⟨h1,h2,h3⟩
  obtain⟨f,hf,e⟩:=Ba.1 h3
  obtain⟨k,k1,k2,e2⟩:=L9 hf
  have:=FM (n:=(k:Int)) (m:=x) Zo Zo h1 h2 (e2.symm.trans e)
  omega
 ·rintro⟨h1,h2⟩
  refine⟨h1,by omega,?_⟩
  have:=Ma (D:=D) (c:=c) (s:=s) (k:=x.toNat) Zo Zo
  rwa[show((x.toNat:Nat):Int)=x by omega]at this
theorem Mb (h:B9 D c≤999999998):AW (De D c s)=((B9 D c:Nat):Int):=by
 rw[AW,Rk h,Vu]
 rcases Nat.eq_zero_or_pos (B9 D c)with h0|h0
 ·rw[h0];rfl
 ·obtain⟨n,hn⟩:∃n,B9 D c=n+1:=⟨B9 D c-1,by omega⟩
  rw[hn,List.range_succ,List.map_append];simp
theorem Rl (h:B9 D c≤999999998)(hc:c≠ []):Cs (De D c s) (Ak ((D.length+1:Nat):Int))=some (GY (D.length+1) c s):=
 Hp (I4 h) (f:=GY (D.length+1) c s) (List.mem_append_right _ (by rw[GZ,if_neg hc];simp))
theorem Rm (a b:List PF)(n:ByteArray)(u:PF→PF):DS (a++b) n u=DS a n u++DS b n u:=by rw[DS,List.map_append];rfl
theorem Rn {pl:List PF}{n:ByteArray}{u:PF→PF}(h:∀f∈pl,f.name≠n):DS pl n u=pl:=by
 rw[DS]
 refine(List.map_congr_left fun f hf=>if_neg (h f hf)).trans (List.map_id _)
theorem Ts (h:B9 D c≤999999998)(hc:c≠ []):∀f∈doneL 1 D,f.name≠Ak ((D.length+1:Nat):Int):=by
 intro f hf e
 rw[B9,if_neg hc]at h
 obtain⟨k,rs,hk,_,rfl⟩:=doneL_mem hf
 have:=G1 Zo Zo Zo Zo (show Ak ((1+k:Nat):Int)=Ak ((D.length+1:Nat):Int)from e)
 omega
theorem OB (h:B9 D c≤999999998)(hc:c≠ [])(u:PF→PF):DS (De D c s) (Ak ((D.length+1:Nat):Int)) u=doneL 1 D++[u (GY (D.length+1) c s)]:=by
 rw[De,Rm,Rn (Ts h hc),GZ,if_neg hc]
 simp[DS,GY]
theorem Mc (h:B9 D c≤999999998)(hc:c≠ []):Cj (De D c s) (Ak ((D.length+1:Nat):Int))=De D c (D1 c):=by
 rw[Cj,OB h hc,De,GZ,if_neg hc];rfl
def Md (D:List (List (List UInt8)))(c:List (List UInt8)):Nat:=D1 (D.flatten++c)
theorem Me (a b:List (List UInt8)):D1 (a++b)=D1 a+D1 b:=by rw[D1,D1,D1,List.flatMap_append,List.length_append]
theorem used_done : ∀ (D : List (List (List UInt8))) (i : Nat), AX (doneL i D) = D1 D.flatten
  | [], _ => rfl
  | x :: D, i => by
    have := used_done D (i + 1)
    rw [AX] at this
    rw [doneL, AX, List.map_cons, List.sum_cons, this, List.flatten_cons, Me]; rfl
theorem used_log :AX (De D c s)=Md D c:=by
 have h1:=used_done D 1
 rw[AX]at h1
 rw[De,AX,List.map_append,List.sum_append_nat,h1,Md,Me,GZ]
 split
 ·rename_i hc;subst hc;rfl
 ·simp[GY,D1]
theorem logL_len :(De D c s).length=B9 D c:=by
 rw[De,List.length_append,doneL_len,B9,GZ]
 split<;>rfl
theorem U2 (h:B9 D c≤999999998){k:Nat}(hk:B9 D c<k)(hk2:k≤999999999):B7 (De D c s) (Ak (k:Int))=false:=by
 rw[Bool.eq_false_iff];intro hh
 obtain⟨f,hf,e⟩:=Ba.1 hh
 obtain⟨j,j1,j2,e2⟩:=L9 hf
 have:=G1 Zo Zo Zo Zo (e2.symm.trans e)
 omega
theorem HC {room:Int}{pl:List PF}{n:ByteArray}{b:List UInt8}(hm:Cr n=true)(hl:B7 pl n=true∨pl.length<64)(hr:(b.length:Int)≤room-(AX pl:Int)):CN room pl n b=0:=by
 rw[CN,if_pos hm,if_neg]
 rintro(⟨h1,h2⟩|h)
 ·rcases hl with h3|h3
  ·rw[h3]at h1;cases h1
  ·omega
 ·omega
def Mf (D:List (List (List UInt8)))(c:List (List UInt8))(s:Nat)(b:List UInt8):List (List (List UInt8))×List (List UInt8)×Nat:=
 if c=[]then(D,[b],0)else if 4096≤D1 c then(D++[c],[b],0)else(D,c++[b],s)
theorem Ny {room:Int}{b:List UInt8}(h0:0<b.length)(h1:b.length≤65536)(hcnt:B9 D c≤60)(hD:c=[]→D=[])(hr:((AH b).length:Int)≤room-(Md D c:Int)):
  AM room (De D c s) b=(0,De (Mf D c s b).1 (Mf D c s b).2.1 (Mf D c s b).2.2):=by
 have hm:=PJ h0 h1
 have hlast:=Mb (s:=s) (D:=D) (c:=c) Zo
 rw[AM,if_neg (by rw[hm];decide),hlast,Mf]
 by_cases hc:c=[]
 ·have hD0:=hD hc
  subst hc;subst hD0
  have e0:De [] [] s=[]:=rfl
  have en:Ak (max ((0:Nat):Int) 1)=Ak 1:=rfl
  have hE:CN room [] (Ak 1) (AH b)=0:=HC name1_may (.inr Zd) (by rw[show Md [] []=0 from rfl]at hr;simpa[AX]using hr)
  rw[e0]
  have e1:B9 [] []=0:=rfl
  rw[if_neg (by rw[e1];omega),if_pos rfl,e1,if_neg Zd,en,hE,CH,hE,if_pos rfl]
  simp[B7,De,doneL,GZ,GY]
 ·have hcn:B9 D c=D.length+1:=by rw[B9,if_neg hc]
  have hsz:EY (De D c s) (Ak ((B9 D c:Nat):Int))=D1 c:=by rw[hcn,EY,Rl Zo hc];rfl
  rw[if_neg hc,hsz]
  by_cases hb:4096≤D1 c
  ·rw[if_pos ⟨by omega,hb⟩,if_pos hb,if_neg Zo,show max (((B9 D c:Nat):Int)+1) 1=((B9 D c+1:Nat):Int)by omega,hcn,Mc Zo hc]
   have hno:B7 (De D c (D1 c)) (Ak ((D.length+1+1:Nat):Int))=false:=U2 Zo Zo Zo
   have hE:CN room (De D c (D1 c)) (Ak ((D.length+1+1:Nat):Int)) (AH b)=0:=HC (Dz Zo Zo) (.inr (by rw[logL_len];omega)) (by rw[used_log];exact hr)
   rw[hE,CH,hE,if_pos rfl,hno,if_neg Zd]
   congr 1
   rw[De,De,GZ,if_neg hc,doneL_app,GZ,if_neg Zs,Nat.add_comm 1 D.length]
   simp[GY,D1]
  ·rw[if_neg Zo,if_neg hb,if_neg Zo,show max ((B9 D c:Nat):Int) 1=((B9 D c:Nat):Int)by omega,hcn]
   have hhas:B7 (De D c s) (Ak ((D.length+1:Nat):Int))=true:=Ma Zo Zo
   have hE:CN room (De D c s) (Ak ((D.length+1:Nat):Int)) (AH b)=0:=HC (Dz Zo Zo) (.inl hhas) (by rw[used_log];exact hr)
   rw[hE,CH,hE,if_pos rfl,hhas,if_pos rfl,OB Zo hc,De,GZ,if_neg Zs]
   simp[GY,List.flatMap_append]
end
def K9 (i n:Nat):List Int:=(List.range' i n).map fun k=>((k:Nat):Int)
theorem I5 {i n:Nat}{x:Int}:x∈K9 i n↔(i:Int)≤x∧x<((i+n:Nat):Int):=by
 rw[K9,List.mem_map]
 constructor
 ·rintro⟨k,hk,rfl⟩
  rw[List.mem_range'_1]at hk
  omega
 ·rintro⟨h1,h2⟩
  exact⟨x.toNat,by rw[List.mem_range'_1];omega,by omega⟩
theorem Ki (i n:Nat):(K9 i n).Pairwise (·<·):=by
 rw[K9,List.pairwise_map]
 exact(List.pairwise_lt_range' ..).imp fun h=>by omega
def HW (i n:Nat)(pl:List PF):Prop:=pl.map (·.name)=(K9 i n).map Ak
theorem OC {pl:List PF}{s:ByteArray}:B7 pl s=true↔s∈pl.map (·.name):=by
 rw[Ba,List.mem_map]
section
variable {i n:Nat}{pl:List PF}
theorem HW.nodup (h:HW i n pl)(h1:1≤i)(h2:i+n≤999999999):(pl.map (·.name)).Nodup:=by
 rw[h,List.Nodup,List.pairwise_map]
 refine(Ki i n).imp_of_mem fun{a b} ha hb hlt e=> ?_
 rw[I5]at ha hb
 have:=FM (n:=a) (m:=b) Zo Zo Zo Zo e
 omega
theorem HW.segs (h:HW i n pl)(h1:1≤i)(h2:i+n≤999999999):Az pl=K9 i n:=by
 refine Kh (Gz (h.nodup h1 h2)) (Ki _ _) fun x=> ?_
 rw[B5,OC,h,List.mem_map]
 constructor
 ·rintro⟨x1,x2,y,hy,e⟩
  have hy2:=hy
  rw[I5]at hy2
  have:=FM (n:=y) (m:=x) Zo Zo x1 x2 e
  exact this▸hy
 ·intro hx
  have hx2:=hx
  rw[I5]at hx2
  exact⟨by omega,by omega,x,hx,rfl⟩
theorem HW.fresh (h:HW i n pl):B7 pl freshN=false:=by
 rw[Bool.eq_false_iff];intro hh
 rw[OC,h,List.mem_map]at hh
 obtain⟨y,_,e⟩:=hh
 exact Kd _ e
theorem HX (pl:List PF)(ns:List Int):(B8 pl ns).map (·.name)=pl.map (·.name):=by
 rw[B8,List.map_map]
 refine List.map_congr_left fun f _=> ?_
 simp only[Function.comp]
 split<;>rfl
theorem Mh (pl:List PF)(ns:List Int):(B8 pl ns).map (·.bytes)=pl.map (·.bytes):=by
 rw[B8,List.map_map]
 refine List.map_congr_left fun f _=> ?_
 simp only[Function.comp]
 split<;>rfl
theorem read_of : ∀ {a b : List PF}, a.map (·.name) = b.map (·.name) → a.map (·.bytes) = b.map (·.bytes) → ∀ s, AL a s = AL b s
  | [], [], _, _, s => rfl
  | [], _ :: _, h, _, _ => by cases h
  | _ :: _, [], h, _, _ => by cases h
  | f :: a, g :: b, h1, h2, s => by
    simp only [List.map_cons, List.cons.injEq] at h1 h2
    have ih := read_of h1.2 h2.2 s
    rw [AL, AL, Cs, Cs] at ih ⊢
    rw [List.find?_cons, List.find?_cons, h1.1]
    split
    · simp [h2.1]
    · exact ih
def Whole (pl:List PF):List Int→List (List (List UInt8))→Prop
 |[],[]=>True
 |n::r,rs::t=>AL pl (Ak n)=rs.flatMap AH∧(∀p∈rs,p.length≤65536)∧Whole pl r t
 |_,_=>False
theorem Whole.same {pl':List PF}(e:∀s,AL pl' s=AL pl s):∀{ns:List Int} {R:List (List (List UInt8))},Whole pl ns R→Whole pl' ns R
 |[],[],_=>trivial
 |n::r,rs::t,h=>⟨(e _).trans h.1,h.2.1,Whole.same e h.2.2⟩
 |[],_::_,h=>h.elim
 |_::_,[],h=>h.elim
theorem Whole.app :∀{ns ms:List Int} {R T:List (List (List UInt8))},Whole pl ns R→Whole pl ms T→Whole pl (ns++ms) (R++T)
 |[],_,[],_,_,h2=>h2
 |n::r,_,rs::t,_,h,h2=>⟨h.1,h.2.1,Whole.app h.2.2 h2⟩
 |[],_,_::_,_,h,_=>h.elim
 |_::_,_,[],_,h,_=>h.elim
theorem HY {room : Int} : ∀ {ns : List Int} {R : List (List (List UInt8))}, Whole pl ns R → ∀ (more : List Int) (acc : List (List UInt8)), Dl room pl (ns ++ more) acc = Dl room pl more (R.flatten.foldl FA acc)
  | [], [], _, more, acc => rfl
  | n :: r, rs :: t, h, more, acc => by
    obtain ⟨h1, h2, h3⟩ := h
    have hf := Nx rs h2
    rw [List.cons_append, Dl, if_pos (by rw [h1, hf]), h1, hf, HY h3, List.flatten_cons, List.foldl_append]
  | [], _ :: _, h, _, _ => h.elim
  | _ :: _, [], h, _, _ => h.elim
theorem Nz {room:Int}{R:List (List (List UInt8))}(hN:HW i n pl)(h1:1≤i)(h2:i+n≤999999999)(hW:Whole pl (K9 i n) R):BX room pl=(0,R.flatten.foldl FA [],B8 pl (K9 i n)):=by
 have e:Au room pl=(0,R.flatten.foldl FA [],pl):=by
  have:=HY (room:=room) hW [] []
  rw[List.append_nil]at this
  unfold Au
  rw[hN.segs h1 h2,this,Dl]
 rw[BX,Re hN.fresh,e,if_pos rfl,hN.segs h1 h2]
end
def Wz (keep:Int)(m:Nat):Nat:=(keep%18446744073709551616).toNat%(m+1)
def tornF (keep:Int)(f:PF):PF:=⟨f.name,f.bytes.take (f.synced+Wz keep (f.bytes.length-f.synced)),(f.bytes.take (f.synced+Wz keep (f.bytes.length-f.synced))).length⟩
def tearsP (pl:List PF)(keep:Int):List CZ:=(Bi pl).map fun n=>⟨n,((Wz keep (EY pl n-QU pl n):Nat):Int),[]⟩
def Gm (syn:Nat)(rs:List (List UInt8))(pl:List PF):Prop:=
 ∃(D:List (List (List UInt8))) (c:List (List UInt8)) (m:Nat),pl=De D c (D1 (c.take m))∧D.flatten++c=rs∧(c=[]→D=[])∧B9 D c≤rs.length∧m≤c.length∧syn≤D.flatten.length+m
theorem logAt_nil :Gm 0 [] []:=⟨[],[],0,rfl,rfl,fun _=>rfl,Nat.le_refl _,Nat.le_refl _,Nat.le_refl _⟩
theorem lenF_le : ∀ {rs : List (List UInt8)}, (∀ p ∈ rs, p.length ≤ 9100) → D1 rs ≤ 9113 * rs.length
  | [], _ => Nat.le_refl _
  | p :: rs, h => by
    have h1 := h p Zs
    have h2 := lenF_le fun q hq => h q (List.mem_cons_of_mem p hq)
    have h3 := Ek p Zo
    rw [D1] at h2 ⊢
    rw [List.flatMap_cons, List.length_append, List.length_cons]
    omega
section
variable {syn :Nat}{rs:List (List UInt8)}{pl:List PF}
theorem Gm.append (h:Gm syn rs pl){b:List UInt8}(h0:0<b.length)(h1:b.length≤9100)(hr:rs.length≤50)(hrs:∀p∈rs,p.length≤9100):(AM 4194304 pl b).1=0∧Gm syn (rs++[b]) (AM 4194304 pl b).2:=by
 obtain⟨D,c,m,rfl,rfl,hD,hcnt,hm,hsyn⟩:=h
 have hf:=Ek b Zo
 have hu:Md D c≤9113*(D.flatten++c).length:=lenF_le hrs
 have:=Ny (room:=4194304) (s:=D1 (c.take m)) (b:=b) (D:=D) (c:=c) h0 Zo Zo hD Zo
 rw[this]
 refine⟨rfl,?_⟩
 rw[Mf]
 by_cases c0:c=[]
 ·have d0:=hD c0
  subst c0;subst d0
  rw[if_pos rfl]
  refine⟨[],[b],0,rfl,rfl,(fun h=>by cases h),Nat.le_refl _,by simp,?_⟩
  simp at hm hsyn
  omega
 ·rw[if_neg c0]
  split
  ·refine⟨D++[c],[b],0,rfl,by simp,(fun h=>by cases h),?_,by simp,?_⟩
   ·rw[B9,if_neg c0]at hcnt
    rw[B9,if_neg Zs]
    simp at hcnt⊢;omega
   ·rw[List.flatten_append,List.length_append]
    simp only[List.flatten_cons,List.flatten_nil,List.append_nil];omega
  ·refine⟨D,c++[b],m,?_,by simp,(fun h=>by simp at h),?_,by simp;omega,hsyn⟩
   ·rw[List.take_append_of_le_length hm]
   ·rw[B9,if_neg c0]at hcnt
    rw[B9,if_neg Zs]
    simp at hcnt⊢;omega
theorem Gm.sync (h:Gm syn rs pl)(hr:rs.length≤50):Gm rs.length rs (FB pl):=by
 obtain⟨D,c,m,rfl,rfl,hD,hcnt,hm,hsyn⟩:=h
 have hl:=Mb (s:=D1 (c.take m)) (D:=D) (c:=c) Zo
 rw[FB,hl]
 by_cases c0:c=[]
 ·have d0:=hD c0
  subst c0;subst d0
  have e0:((B9 [] []:Nat):Int)=0:=rfl
  rw[if_pos e0]
  exact⟨[],[],0,rfl,rfl,fun _=>rfl,Nat.le_refl _,Nat.le_refl _,Nat.le_refl _⟩
 ·have e:B9 D c=D.length+1:=by rw[B9,if_neg c0]
  rw[e,if_neg Zo,Mc Zo c0]
  exact⟨D,c,c.length,by rw[List.take_length],rfl,hD,hcnt,Nat.le_refl _,by simp⟩
def OD (pl:List PF)(recs:List (List UInt8)):Prop:=∃n R,HW 1 n pl∧n≤60∧Whole pl (K9 1 n) R∧R.flatten=recs
theorem OD.open {recs:List (List UInt8)}(h:OD pl recs)(hne:∀p∈recs,p≠ []){room:Int}:(BX room pl).1=0∧(BX room pl).2.1=recs∧(∀s,AL (BX room pl).2.2 s=AL pl s)∧(BX room pl).2.2.map (·.name)=pl.map (·.name):=by
 obtain⟨n,R,h1,h2,h3,rfl⟩:=h
 rw[Nz h1 Zd Zo h3,steps_all _ _ hne]
 exact⟨rfl,by simp,fun s=>read_of (HX _ _) (Mh _ _) s,HX _ _⟩
end
end Go.Proofs.YtjkaicjmfgekjaaGreatDoor
namespace Go.Proofs.YtjkaicjmfgekjaaGreatDoor
open Go.Proofs.Tryz
attribute [local irreducible] RD RS Av RL RA RT CJ Aj
attribute [local irreducible] crcN B6 B3 E1 BV leL Cm Ak Az Di Dt DZ Em C4
attribute [local irreducible] Au DL AH BX AM
abbrev muLink :Go.Conc.Locks.MuLink:={lock:=77,unlock:=33,ilock:=131,iunlock:=78,lockSlow:=192,unlockSlow:=135,disable:=133,enable:=136,acquire:=191,relMerge:=132,cas32:=190,add32:=134,tMutex:=88,tIMutex:=86,tPMutex:=151,tPIMutex:=204,tPI32:=208,tUP:=206,tNoCopy:=83,tU32:=84}
theorem muLib :Go.Conc.Locks.MuLib prog muLink:=
 ⟨func77,func33,func131,func78,func133,func136,func191,func132,func190,func134,underlying86,Tryz.runUnderlying86,Tryz.sizeOf86,Tryz.isAgg86,Tryz.zeroValue86,underlying88,Tryz.runUnderlying88,Tryz.sizeOf88,Tryz.isAgg88,Tryz.zeroValue88,underlying151,Tryz.runUnderlying151,Tryz.sizeOf151,Tryz.isAgg151,Tryz.zeroValue151,underlying204,Tryz.runUnderlying204,Tryz.sizeOf204,Tryz.isAgg204,Tryz.zeroValue204,underlying208,Tryz.runUnderlying208,Tryz.sizeOf208,Tryz.isAgg208,Tryz.zeroValue208,underlying206,Tryz.runUnderlying206,Tryz.sizeOf206,Tryz.isAgg206,Tryz.zeroValue206,underlying83,Tryz.runUnderlying83,Tryz.sizeOf83,Tryz.isAgg83,Tryz.zeroValue83,underlying21,Tryz.runUnderlying21,Tryz.sizeOf21,Tryz.isAgg21,Tryz.zeroValue21,Zk⟩
end Go.Proofs.YtjkaicjmfgekjaaGreatDoor
namespace Go.Proofs.YtjkaicjmfgekjaaGreatDoor
open Go.Proofs.Tryz
attribute [local irreducible] RD RS Av RL RA RT CJ Aj
attribute [local irreducible] crcN B6 B3 E1 BV leL Cm Ak Az Di Dt DZ Em C4
attribute [local irreducible] Au DL AH BX AM
theorem rec_ok :(AM 4194304 [] [1,1]).1=0∧Gm 0 [[1,1]] (AM 4194304 [] [1,1]).2:=logAt_nil.append (b:=[1,1]) Zd Zd Zd (fun p h=>by cases h)
theorem vput1 :Ay 1=[1]:=by rw[Ej Zd];rfl
attribute [local irreducible] X
theorem Dm (b lg m1 m2 m3:Nat)(s:Int)(w:World)(hb:AA w b [.int .i32 0,.int .u32 0,jp lg,.int .i64 s,.map (some m1),.map (some m2),.map (some m3)] 94):
  Calls prog 32 #[jp b] w (AS (fun v w'=>v= .bool true∧AA w' b [.int .i32 1,.int .u32 0,jp lg,.int .i64 s,.map (some m1),.map (some m2),.map (some m3)] 94∧Ah (one b) w w')):=by
 refine Ae (n:=18) func32 rfl rfl rfl ?_;refine jG ?_;refine jV (CW (C0 underlying24 rfl rfl) rfl) ?_;refine jG ?_;refine Aj.condF rfl ?_;refine jG ?_;refine jR<|jC (VS muLib hb) ?_;rintro _ a1 ⟨rfl,a0,a2⟩;have K0:=(Ah.refl (one b) w).tf a2 rfl;replace hb:AA a1 b [.int .i32 1,.int .u32 0,jp lg,.int .i64 s,.map (some m1),.map (some m2),.map (some m3)] 94:=a0;clear a0;refine jG ?_;refine jV (CW (C0 underlying89 rfl rfl) rfl) ?_;refine jG ?_;refine Aj.condF rfl ?_;refine jG ?_;refine jJ func32 ?_;exact⟨_,rfl,rfl,hb,K0⟩
theorem VT (a:Option Addr)(c:Nat)(w:World)(hs:As w a ([1]:List Int)):
  Calls prog 61 #[.int .i64 1,.slice a 1 c] w (AS (fun v w'=>∃a' c',v= .slice a' ([1,1]:List UInt8).length c'∧Af w' 5 a' c' ([1,1]:List UInt8)∧(∀q,own a' q→w.heap.size≤q)∧Aq w w')):=by
 have hone:([UInt8.ofNat 1]:List UInt8).length=1:=rfl;refine Ae (n:=22) func61 rfl rfl rfl ?_;refine jG ?_;refine jV (D9 (a:=1) rfl ⟨_,underlying3⟩ underlying5) ?_;refine jR<|Av.buildSlice ([UInt8.ofNat 1]:List UInt8) underlying98 ty5 rfl rfl Ze ?_;intro a3 ae a4 a5 a6;clear a4;have K0:=(a6:Aq w _);refine FJ ?_;refine jV (At (c:=1) (Cu underlying185 rfl) rfl) ?_;refine jG ?_;refine Aj.unloop ?_;refine jG ?_;refine Ed ?_;refine Ds ?_;obtain⟨af,ag,a7,a8,a9,a0⟩:=hs.el (i:=0) Zs;have hc_10_lt:=a0.lt;obtain rfl:1=a7:=Option.some.inj a8;refine jV (AI underlying185 ty3 rfl rfl a9 Zs) ?_;replace a0:=a0.ext K0;refine jG ?_;refine jR<|jC (Ps (some ⟨a3,0,none⟩) ([UInt8.ofNat 1]:List UInt8) (([UInt8.ofNat 1]:List UInt8).length) 1 _ a5.sl Zo Zo) ?_;rintro _ ah ⟨aa,ab,rfl,a1,a2,ac⟩;have ad:=A1 K0.size a2;clear a2;refine jG ?_;refine jV (At (c:=1) (An rfl rfl Zd Zd) Zd) ?_;refine jG ?_;refine Aj.inLoop ?_;refine jG ?_;refine Aj.condF rfl ?_;refine jG ?_;refine jJ func61 ?_;rw[vput1]at a1⊢;replace K0:=K0.ext ac;exact⟨_,rfl,aa,ab,rfl,a1,ad,K0⟩
end Go.Proofs.YtjkaicjmfgekjaaGreatDoor
