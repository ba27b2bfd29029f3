/-
  Nj
-/
import Derived.Test.YtjkaicjmfgekjaaGreatDoorPcNf
import Derived.Test.YtjkaicjmfgekjaaGreatDoorPcSum
set_option linter.all false
set_option maxRecDepth 100000
set_option maxHeartbeats 4000000
namespace Go.Proofs.YtjkaicjmfgekjaaGreatDoor
open Go.Proofs.Tryz
attribute [local irreducible] RD RS AB RL RA RT CB Ai
open Wa
instance : Enc Qq:=Enc.struct (λt=>[.slice t.marks.a t.marks.len t.marks.cap,.slice t.cloud.a t.cloud.len t.cloud.cap]) 2 (λ_=>rfl) (λ_ v hv=>by simp at hv;rcases hv with rfl|rfl<;>rfl) Zd
abbrev kh (_:World)(p:Int)(m:Nat):Prop:=(0<=p/\p<=18446744073709551615)/\1<=m
abbrev Yu (W:World)(x:Ah)(m:Nat):Prop:=True/\True/\True
def reads_DotC :FC prog 73 Ah Yu:=by
 intro H enc W fuel cs x h;obtain⟨xs,n,rfl,rfl,hlen,hxs,hf⟩:=DataW.trod_struct underlying73 h;obtain⟨y0,y1,y2,rfl⟩:∃y0 y1 y2,xs=[y0,y1,y2]:=by
  match xs,hxs with
  |[y0,y1,y2],_=>exact⟨y0,y1,y2,rfl⟩
 obtain⟨v0,e0,q0⟩:=(DL underlying3) H enc W n _ _ (hf 0 _ rfl);replace e0:(cs.drop 0).take (prog.cellsOf 3)=cellsOf v0:=e0;rw[show prog.cellsOf 3=1 by kernel_rfl]at e0;have c0:cs.drop 0=(cs.drop 0).take 1++cs.drop 1:=EB cs 0 1;obtain⟨v1,e1,q1⟩:=(DL underlying3) H enc W n _ _ (hf 1 _ rfl);replace e1:(cs.drop 1).take (prog.cellsOf 3)=cellsOf v1:=e1;rw[show prog.cellsOf 3=1 by kernel_rfl]at e1;have c1:cs.drop 1=(cs.drop 1).take 1++cs.drop 2:=EB cs 1 1;obtain⟨v2,e2,q2⟩:=(DL underlying3) H enc W n _ _ (hf 2 _ rfl);replace e2:(cs.drop 2).take (prog.cellsOf 3)=cellsOf v2:=e2;rw[show prog.cellsOf 3=1 by kernel_rfl]at e2;have c2:cs.drop 2=(cs.drop 2).take 1++cs.drop 3:=EB cs 2 1;have hl:cs.length=3:=hlen.trans Zk;have t:cs=cs.drop 0:=rfl;have cN:cs.drop 3=[]:=Aa0 Zo;rw[e0]at c0;rw[e1]at c1;rw[e2]at c2;rw[c0,c1,c2,cN]at t;refine⟨⟨v0,v1,v2⟩,t,trivial,trivial,trivial⟩;all_goals (simp only[Aaf,Aav,Rows.uptoBulk,Rows.uptoBulkAll];omega)
abbrev Wo (W:World)(x:Ab)(m:Nat):Prop:=True/\True/\True
def reads_MarkC :FC prog 46 Ab Wo:=by
 intro H enc W fuel cs x h;obtain⟨xs,n,rfl,rfl,hlen,hxs,hf⟩:=DataW.trod_struct underlying46 h;obtain⟨y0,y1,y2,rfl⟩:∃y0 y1 y2,xs=[y0,y1,y2]:=by
  match xs,hxs with
  |[y0,y1,y2],_=>exact⟨y0,y1,y2,rfl⟩
 obtain⟨v0,e0,q0⟩:=(DL underlying3) H enc W n _ _ (hf 0 _ rfl);replace e0:(cs.drop 0).take (prog.cellsOf 3)=cellsOf v0:=e0;rw[show prog.cellsOf 3=1 by kernel_rfl]at e0;have c0:cs.drop 0=(cs.drop 0).take 1++cs.drop 1:=EB cs 0 1;obtain⟨v1,e1,q1⟩:=(DL underlying3) H enc W n _ _ (hf 1 _ rfl);replace e1:(cs.drop 1).take (prog.cellsOf 3)=cellsOf v1:=e1;rw[show prog.cellsOf 3=1 by kernel_rfl]at e1;have c1:cs.drop 1=(cs.drop 1).take 1++cs.drop 2:=EB cs 1 1;obtain⟨v2,e2,q2⟩:=(DL underlying3) H enc W n _ _ (hf 2 _ rfl);replace e2:(cs.drop 2).take (prog.cellsOf 3)=cellsOf v2:=e2;rw[show prog.cellsOf 3=1 by kernel_rfl]at e2;have c2:cs.drop 2=(cs.drop 2).take 1++cs.drop 3:=EB cs 2 1;have hl:cs.length=3:=hlen.trans Zk;have t:cs=cs.drop 0:=rfl;have cN:cs.drop 3=[]:=Aa0 Zo;rw[e0]at c0;rw[e1]at c1;rw[e2]at c2;rw[c0,c1,c2,cN]at t;refine⟨⟨v0,v1,v2⟩,t,trivial,trivial,trivial⟩;all_goals (simp only[Aaf,Aav,Rows.uptoBulk,Rows.uptoBulkAll];omega)
abbrev N8 (W:World)(x:Aj)(m:Nat):Prop:=(∃k,k<=m/\iq W x.item k)/\True/\True/\(∃k,k<=m/\kh W x.price k)
def reads_EntryC :FC prog 76 Aj N8:=by
 intro H enc W fuel cs x h;obtain⟨xs,n,rfl,rfl,hlen,hxs,hf⟩:=DataW.trod_struct underlying76 h;obtain⟨y0,y1,y2,y3,rfl⟩:∃y0 y1 y2 y3,xs=[y0,y1,y2,y3]:=by
  match xs,hxs with
  |[y0,y1,y2,y3],_=>exact⟨y0,y1,y2,y3,rfl⟩
 obtain⟨v0,e0,q0⟩:=(IN underlying9) H enc W n _ _ (hf 0 _ rfl);replace e0:(cs.drop 0).take (prog.cellsOf 9)=cellsOf v0:=e0;rw[show prog.cellsOf 9=1 by kernel_rfl]at e0;have c0:cs.drop 0=(cs.drop 0).take 1++cs.drop 1:=EB cs 0 1;obtain⟨v1,e1,q1⟩:=(reads_DotC) H enc W n _ _ (hf 1 _ rfl);replace e1:(cs.drop 1).take (prog.cellsOf 73)=cellsOf v1:=e1;rw[show prog.cellsOf 73=3 by kernel_rfl]at e1;have c1:cs.drop 1=(cs.drop 1).take 3++cs.drop 4:=EB cs 1 3;obtain⟨v2,e2,q2⟩:=(DL underlying3) H enc W n _ _ (hf 2 _ rfl);replace e2:(cs.drop 4).take (prog.cellsOf 3)=cellsOf v2:=e2;rw[show prog.cellsOf 3=1 by kernel_rfl]at e2;have c2:cs.drop 4=(cs.drop 4).take 1++cs.drop 5:=EB cs 4 1;obtain⟨v3,e3,q3⟩:=(Tn underlying74) H enc W n _ _ (hf 3 _ rfl);replace e3:(cs.drop 5).take (prog.cellsOf 74)=cellsOf v3:=e3;rw[show prog.cellsOf 74=1 by kernel_rfl]at e3;have c3:cs.drop 5=(cs.drop 5).take 1++cs.drop 6:=EB cs 5 1;have hl:cs.length=6:=hlen.trans Zk;have t:cs=cs.drop 0:=rfl;have cN:cs.drop 6=[]:=Aa0 Zo;rw[e0]at c0;rw[e1]at c1;rw[e2]at c2;rw[e3]at c3;rw[c0,c1,c2,c3,cN]at t;refine⟨⟨v0,v1,v2,v3.v⟩,t,⟨_,?_,q0⟩,trivial,trivial,⟨_,?_,q3⟩⟩;all_goals (simp only[Aaf,Aav,Rows.uptoBulk,Rows.uptoBulkAll];omega)
abbrev Yv (W:World)(x:Qq)(m:Nat):Prop:=(∃k,k<=m/\(R5 Wo) W x.marks k)/\(∃k,k<=m/\(R5 Yu) W x.cloud k)
def reads_CtxC :FC prog 31 Qq Yv:=by
 intro H enc W fuel cs x h;obtain⟨xs,n,rfl,rfl,hlen,hxs,hf⟩:=DataW.trod_struct underlying31 h;obtain⟨y0,y1,rfl⟩:∃y0 y1,xs=[y0,y1]:=by
  match xs,hxs with
  |[y0,y1],_=>exact⟨y0,y1,rfl⟩
 obtain⟨v0,e0,q0⟩:=(Hb (α:=Ab) underlying28 Zk reads_MarkC) H enc W n _ _ (hf 0 _ rfl);replace e0:(cs.drop 0).take (prog.cellsOf 28)=cellsOf v0:=e0;rw[show prog.cellsOf 28=1 by kernel_rfl]at e0;have c0:cs.drop 0=(cs.drop 0).take 1++cs.drop 1:=EB cs 0 1;obtain⟨v1,e1,q1⟩:=(Hb (α:=Ah) underlying29 Zk reads_DotC) H enc W n _ _ (hf 1 _ rfl);replace e1:(cs.drop 1).take (prog.cellsOf 29)=cellsOf v1:=e1;rw[show prog.cellsOf 29=1 by kernel_rfl]at e1;have c1:cs.drop 1=(cs.drop 1).take 1++cs.drop 2:=EB cs 1 1;have hl:cs.length=2:=hlen.trans Zk;have t:cs=cs.drop 0:=rfl;have cN:cs.drop 2=[]:=Aa0 Zo;rw[e0]at c0;rw[e1]at c1;rw[c0,c1,cN]at t;refine⟨⟨v0,v1⟩,t,⟨_,?_,q0⟩,⟨_,?_,q1⟩⟩;all_goals (simp only[Aaf,Aav,Rows.uptoBulk,Rows.uptoBulkAll];omega)
abbrev Q2 (W:World)(x:Bf)(m:Nat):Prop:=(∃k,k<=m/\(PP N8) W x.entries k)/\(∃k,k<=m/\Yv W x.ctx k)
def reads_CartC :FC prog 33 Bf Q2:=by
 intro H enc W fuel cs x h;obtain⟨xs,n,rfl,rfl,hlen,hxs,hf⟩:=DataW.trod_struct underlying33 h;obtain⟨y0,y1,rfl⟩:∃y0 y1,xs=[y0,y1]:=by
  match xs,hxs with
  |[y0,y1],_=>exact⟨y0,y1,rfl⟩
 obtain⟨v0,e0,q0⟩:=(N7 (α:=Aj) underlying27 Zk reads_EntryC) H enc W n _ _ (hf 0 _ rfl);replace e0:(cs.drop 0).take (prog.cellsOf 27)=cellsOf v0:=e0;rw[show prog.cellsOf 27=1 by kernel_rfl]at e0;have c0:cs.drop 0=(cs.drop 0).take 1++cs.drop 1:=EB cs 0 1;obtain⟨v1,e1,q1⟩:=(reads_CtxC) H enc W n _ _ (hf 1 _ rfl);replace e1:(cs.drop 1).take (prog.cellsOf 31)=cellsOf v1:=e1;rw[show prog.cellsOf 31=2 by kernel_rfl]at e1;have c1:cs.drop 1=(cs.drop 1).take 2++cs.drop 3:=EB cs 1 2;have hl:cs.length=3:=hlen.trans Zk;have t:cs=cs.drop 0:=rfl;have cN:cs.drop 3=[]:=Aa0 Zo;rw[e0]at c0;rw[e1]at c1;rw[c0,c1,cN]at t;refine⟨⟨v0,v1⟩,t,⟨_,?_,q0⟩,⟨_,?_,q1⟩⟩;all_goals (simp only[Aaf,Aav,Rows.uptoBulk,Rows.uptoBulkAll];omega)
abbrev iT (W:World)(x:gD)(m:Nat):Prop:=True/\True/\(∃k,k<=m/\iq W x.key k)/\(∃k,k<=m/\Q2 W x.cart k)/\True
def reads_D9C :FC prog 48 gD iT:=by
 intro H enc W fuel cs x h;obtain⟨xs,n,rfl,rfl,hlen,hxs,hf⟩:=DataW.trod_struct underlying48 h;obtain⟨y0,y1,y2,y3,y4,rfl⟩:∃y0 y1 y2 y3 y4,xs=[y0,y1,y2,y3,y4]:=by
  match xs,hxs with
  |[y0,y1,y2,y3,y4],_=>exact⟨y0,y1,y2,y3,y4,rfl⟩
 obtain⟨v0,e0,q0⟩:=(DL underlying3) H enc W n _ _ (hf 0 _ rfl);replace e0:(cs.drop 0).take (prog.cellsOf 3)=cellsOf v0:=e0;rw[show prog.cellsOf 3=1 by kernel_rfl]at e0;have c0:cs.drop 0=(cs.drop 0).take 1++cs.drop 1:=EB cs 0 1;obtain⟨v1,e1,q1⟩:=(DL underlying3) H enc W n _ _ (hf 1 _ rfl);replace e1:(cs.drop 1).take (prog.cellsOf 3)=cellsOf v1:=e1;rw[show prog.cellsOf 3=1 by kernel_rfl]at e1;have c1:cs.drop 1=(cs.drop 1).take 1++cs.drop 2:=EB cs 1 1;obtain⟨v2,e2,q2⟩:=(IN underlying9) H enc W n _ _ (hf 2 _ rfl);replace e2:(cs.drop 2).take (prog.cellsOf 9)=cellsOf v2:=e2;rw[show prog.cellsOf 9=1 by kernel_rfl]at e2;have c2:cs.drop 2=(cs.drop 2).take 1++cs.drop 3:=EB cs 2 1;obtain⟨v3,e3,q3⟩:=(reads_CartC) H enc W n _ _ (hf 3 _ rfl);replace e3:(cs.drop 3).take (prog.cellsOf 33)=cellsOf v3:=e3;rw[show prog.cellsOf 33=3 by kernel_rfl]at e3;have c3:cs.drop 3=(cs.drop 3).take 3++cs.drop 6:=EB cs 3 3;obtain⟨v4,e4,q4⟩:=(reads_MarkC) H enc W n _ _ (hf 4 _ rfl);replace e4:(cs.drop 6).take (prog.cellsOf 46)=cellsOf v4:=e4;rw[show prog.cellsOf 46=3 by kernel_rfl]at e4;have c4:cs.drop 6=(cs.drop 6).take 3++cs.drop 9:=EB cs 6 3;have hl:cs.length=9:=hlen.trans Zk;have t:cs=cs.drop 0:=rfl;have cN:cs.drop 9=[]:=Aa0 Zo;rw[e0]at c0;rw[e1]at c1;rw[e2]at c2;rw[e3]at c3;rw[e4]at c4;rw[c0,c1,c2,c3,c4,cN]at t;refine⟨⟨v0,v1,v2,v3,v4⟩,t,trivial,trivial,⟨_,?_,q2⟩,⟨_,?_,q3⟩,trivial⟩;all_goals (simp only[Aaf,Aav,Rows.uptoBulk,Rows.uptoBulkAll];omega)
def X2 {W:World}{m:Nat}{l:List Aj}(hm:m<=1048576)(h:∀x∈l,∃k,k+1<=m/\N8 W x k):Ez l:=λx hx=>by
 obtain⟨k,hk,⟨k1,e1,e2⟩,-,-,k2,e3,e4⟩:=h x hx;exact⟨⟨e4.1.1,by omega⟩,by have:x.item.size+1<=k1:=e2;omega⟩
def X3 {W:World}{c:Bf}{k:Nat}(h:Q2 W c k)(hk:k<=1048576):∃v s,c=(CY v s).cart/\Bi W s v/\Bn v s:=by
 obtain⟨⟨k50,h50,l1,⟨a1,b1,c1,d1,f1⟩,z1,-⟩,k51,h51,⟨k52,h52,l2,a2,b2,c2,d2,f2⟩,⟨k53,h53,l3,a3,b3,c3,d3,f3⟩⟩:=h;obtain⟨⟨x1,y1,w1⟩,⟨⟨x2,y2,w2⟩,⟨x3,y3,w3⟩⟩⟩:=c;simp only at a1 b1 a2 b2 a3 b3 z1;subst a1 a2 a3;exact⟨{nilV with ent:=l1,mrk:=l2,cl:=l3},⟨x1,w1,x2,w2,x3,w3,none,0,none,0,none,0⟩,rfl,⟨b1,b2,b3⟩,⟨⟨by show l1.length<=_;omega,by show l2.length<=_;omega,by show l3.length<=_;omega,Aal _,Aal _,Aal _⟩,X2 Zo d1,z1⟩⟩
def gy {W : World} {cs : List gD} {m : Nat} (hm : m <= 1048576) (h : ∀ c ∈ cs, ∃ k, k + 1 <= m /\ iT W c k) : ∃ ks : List Dx, cs = ks.map Dx.c /\ iQ W ks := by
  induction cs with
  | nil => exact ⟨[], rfl, λr h => absurd h Zs⟩
  | cons s l ih =>
    obtain ⟨ks, e, h1⟩ := ih λt ht => h t (Aau _ ht)
    obtain ⟨k, hk, -, -, ⟨k1, h2, h3⟩, ⟨k3, h4, hc⟩, -⟩ := h s Zs;obtain ⟨v, t, e1, h5, h6⟩ := X3 hc Zo;obtain ⟨op, n, key, cart, mark⟩ := s;simp only at e1 h3;subst e1;exact ⟨⟨op, n, key, v, t, mark⟩ :: ks, by rw [e]; rfl, λr hr => by
      rcases List.mem_cons.1 hr with rfl | hr
      · exact ⟨⟨h5, h6⟩, by have e9 : key.size + 1 <= k1 := h3; show key.size <= 4294967295; omega⟩
      exact h1 r hr⟩
end Go.Proofs.YtjkaicjmfgekjaaGreatDoor
