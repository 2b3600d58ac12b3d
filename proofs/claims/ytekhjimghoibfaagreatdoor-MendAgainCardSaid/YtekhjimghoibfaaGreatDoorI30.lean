import Derived.LaidMore
import Derived.Stop.Joined
import Derived.Lib.SmallJoins
import Derived.Deep.SlicePairs
import Derived.Test.YtekhjimghoibfaaGreatDoorI29
set_option linter.defProp false
set_option maxHeartbeats 32000000
set_option maxRecDepth 100000
open Go.Lib renaming hid->Aa
open List renaming getElem_toArray->Aq,getElem_cons_succ->Am,getElem_cons_zero->Ah,setIfInBounds_toArray->Af,set_cons_zero->Ap,set_cons_succ->Au,getElem?_cons_zero->Ag,getElem?_cons_succ->AB,getElem?_map->CB,getElem?_eq_getElem->Ae,getElem_map->KN,getD_eq_getElem?_getD->Bo,mem_range->DY
open Nat renaming le_trans->Bi,le_of_lt->Il,le_refl->Ad
open Option renaming map_some->DJ
open Go.World renaming cell?_spot->Afa,block_lt_of_cell?->D8
open Go.Value renaming okWide->VN,cells->Y8
namespace Go.Proofs.YtekhjimghoibfaaGreatDoor
open Go.Proofs.Tryz
section
open Go.RowKit
section
variable{w:World}{x d p L:Nat}{s:St}{F:Nat->Prop}{P:(Nat->UInt64)->Prop}
def Ej.Abd(h:Ej (.down P) w d p L s F)(off:Nat):Calls prog 27 #[Az d,.int .i64 (off:Int)] w λa g=>a=.returned (.tuple #[.int .u64 0,.int .i64 12])/\w=g:=by
 obtain⟨m,k,l,j,i,own,h,hF⟩:=h;obtain⟨b,e,f,c⟩:=Qo.blk h.dev;exact Wl d L b off e f w h.L0 h.L1 c
def Apz(h:Ej (.down P) w d p L s F):Calls prog 23 #[wV d p x] w λe g=>e=.returned (.int .u64 0)/\η w g:=by
 obtain⟨k,f,b,c⟩:=Fz w 34 [Az d,Az p,Az x];have l:=c.p1;have a:=Aa ((h.below b).Abd 64);rw[show((64:Nat):Int)=64 from rfl]at a;have i:=Aa b;have j:=Aa f;clear h b f c;unfold wV;go_enter func23,ntmps23
 go_wp2_with fail
 rw[<-j.out]
 try go_wp2_with fail
 refine a.out.mono ?_;rintro e g⟨rfl,rfl⟩;clear a
 go_wp2_with fail
 go_ret;exact⟨rfl,i.out⟩
def Aun(h:Ej (.down P) w d p L s F)(stamp:UInt64)(v:Value):Calls prog 22 #[Az d,Az p,Az x,.int .u64 (stamp.toNat:Int),v] w λa i=>a=.returned (.tuple #[.pointer none,.int .i64 12])/\w=i:=by
 have g:=h.pos.1;have t0:(((L*64:Nat):Int)==0)=false:=ζ O;have c:=Aa h.size;obtain⟨f,e⟩:∃f,L*64=f:=⟨_,rfl⟩;rw[e]at t0 c;have b:=Aa (h.Abd 64);rw[show((64:Nat):Int)=64 from rfl]at b;clear h e g;go_enter func22,ntmps22
 go_wp2_with fail
 refine c.out.mono ?_;rintro a j⟨rfl,rfl⟩
 go_wp2_with fail
 refine b.out.mono ?_;rintro a j⟨rfl,rfl⟩
 go_wp2_with fail
 go_ret2;exact⟨rfl,rfl⟩
def Aiw(h:Ej (.down P) w d p L s F)(A:Option Addr)(n c:Nat):Calls prog 8 #[wV d p x,.slice A n c] w λr l=>r=.returned (.int .i64 12)/\η w l:=by
 obtain⟨j,B,m,g⟩:=Fz w 34 [Az d,Az p,Az x];obtain⟨D,E,G⟩:=g.p3;have K:IntKind.u64.wrap (1:Int)=1:=by decide
 have o:Hid (∀b,η j b->b.cell? (Φ w.heap.size)=some (Az d)/\b.cell? (Δ w.heap.size 1)=some (Az p)/\b.cell? (Δ w.heap.size 2)=some (Az x)):=Aa (λb f=>⟨(g.ξ f).cell 0,(g.ξ f).cell 1,(g.ξ f).cell 2⟩);have v:=Aa (λb(f:η j b)=>Apz (x:=x) ((h.below m).below f));have y:=Aa (λb(f:η j b)=>Aun (x:=x) ((h.below m).below f) 1 (.slice A n c));have I:=Aa m;have J:=Aa B;clear h m B g;unfold wV at v⊢;go_enter func8,ntmps8
 go_wp2_with fail
 rw[<-J.out]
 try go_wp2_with fail
 refine wp_region_held_drew (S:=(λl=>l.cell? (Φ w.heap.size)=some (Az d)/\l.cell? (Δ w.heap.size 1)=some (Az p)/\l.cell? (Δ w.heap.size 2)=some (Az x))) Γ ⟨D,E,G⟩ (λa=>?_);refine Fq 0 (Az w.heap.size) a ?_;refine Fq 1 (Az d) a (hy:=λw e=>by obtain⟨s0,t,u⟩:=e;go_simp) ?_;refine Fq 2 (.pointer (some (Δ w.heap.size 1))) a ?_;refine Fq 3 (Az p) a (hy:=λw e=>by obtain⟨s0,t,u⟩:=e;go_simp) ?_
 try simp only[Act.put,Aq,Am,Ah,Af,Ap,Au]
 refine Fq 4 (.pointer (some (Δ w.heap.size 2))) a ?_;refine Fq 5 (Az x) a (hy:=λw e=>by obtain⟨s0,t,u⟩:=e;go_simp) ?_;refine Fq 6 (.agg #[Az d,Az p,Az x]) a (hy:=λw e=>by obtain⟨s0,t,u⟩:=e;go_simp) ?_;refine Fq 9 (.slice A n c) a ?_
 try simp only[Act.put,Aq,Am,Ah,Af,Ap,Au]
 refine wpAnyH_ready (rs:=[7]) Γ Θ ?_;refine AllReadyH.cons rfl (λq k=>?_) AllReadyH.nil;go_simp;go_at_call 23;refine(v.out _ ((Dr.drew _).below _)).mono ?_;rintro r C⟨rfl,z⟩;have i:η j C:=((Dr.drew j).below _).trans z;refine k.out _ _ (o.out _ i) (λa=>?_);clear k q
 try simp only[Act.put,Aq,Am,Ah,Af,Ap,Au]
 refine Fq 8 (.int .u64 ((1:UInt64).toNat:Int)) a ?_
 try simp only[Act.put,Aq,Am,Ah,Af,Ap,Au]
 refine wpAnyH_ready (rs:=[10]) Γ Θ ?_;refine AllReadyH.cons rfl (λq k=>?_) AllReadyH.nil;go_simp;go_at_call 22;refine(y.out _ i).mono ?_;rintro r M⟨rfl,rfl⟩;refine k.out _ _ (o.out _ i) (λa=>?_);clear k q
 try simp only[Act.put,Aq,Am,Ah,Af,Ap,Au]
 refine Fq 11 (.tuple #[.pointer none,.int .i64 12]) a ?_;refine Fq 12 (.pointer none) a ?_;refine Fq 13 (.int .i64 12) a ?_;refine Fq 14 (.pointer none) a ?_
 try simp only[Act.put,Aq,Am,Ah,Af,Ap,Au]
 refine Fq 15 (.int .i64 12) a ?_
 try simp only[Act.put,Aq,Am,Ah,Af,Ap,Au]
 refine wpAnyH_done Γ ?_ _;have H:Hid (η w C):=Aa (τ I.out i);clear i z a D E G v y o
 go_wp2_with fail
 go_ret;exact⟨rfl,H.out⟩
end
def G60(u:UInt64)(_:List Kv)(_:List UInt8->List Lk):Prop:=u.toNat<=60000
section
variable{lf:Int}{L:Nat}{s s0:St}{items:List Kv}{ch:List UInt8->List Lk}{q:Ms}{c:Int}{ws':Nat->UInt64}
def Ap0{stamp:UInt64}(a:(s.ws 8).toNat<=60000)(b:stamp.toNat<=60000):tH L s items ch stamp G60:=⟨λ_ _ _ _=>a,λ_ _ _ _ _ _ _ _ _ _ _=>a,λ_ _ _ _=>b⟩
def Nq(h:Ce L s items ch)(a:(s.ws 8).toNat<=60000):Found L s G60 s.ws:=Og h.y a
def mG{stamp:UInt64}(m:Upd lf L s G60 q (NQ L s items ch stamp c))(j:(s.ws 8).toNat<=60000)(p:stamp.toNat<=60000)(b:q.pw.mode.may q.s.ws ws'):Found L s G60 ws':=by
 rcases m with⟨t,_,r,l⟩|⟨_,P,n,k⟩
 ·rw[r]at b;have f:ws'=q.s.ws:=b;subst f;rcases l with⟨_,d,a⟩|⟨_,d,a,g,v,u,i,_⟩
  ·exact(Nq d (by rw[a.2 8 U U];exact j)).from a.1 (λe o=>a.2 e O O)
  ·exact(Nq i (by rw[d];exact p)).from a (λe o=>g e O O O)
 ·rw[n]at b;exact k ws' b
end
section
variable{w:World}{d L:Nat}{ws:Nat->UInt64}{own Y:Nat->Prop}{sh:Sh}{s:St}{items:List Kv}{ch:List UInt8->List Lk}
def Aez(O:0<L)(N:L<=1024)(S:shapeOf L=some sh)(h:Dev w d L ws M0 (λ_=>0) own)(P:Tabs w)(H:¬own 0)(I:¬own 1)(M:wordsAt ws 0 8=wordsOf sh)
 (i:D5 Y L (Fp ws sh) items ch)(K:(ws 8).toNat<=60000):
 Calls prog 10 #[Az d] w λe j=>∃p x F a o,e=.returned (.tuple #[.agg #[Az p,Az x,.int .u64 ((ws 8).toNat:Int)],.int .i64 0])/\Ix j x d p L a F/\
  Ce L a o (λq=>(ch q).dropWhile (newer (ws 8).toNat))/\MC (Fp ws sh) a/\Touch own w j/\∀b,F b->own b\/w.heap.size<=b:=by
 obtain⟨ao,ap,aq,y,ac,ad,af,ah,_⟩:=lK i;subst ac;have r:=i.ix.ok;refine(Xj (s:=Fp ws sh) (Z:=own) (G:=λa=>MC (Fp ws sh) a/\∃o,Ce L a o (λq=>(ch q).dropWhile (newer (ws 8).toNat))) O N S h P H I M (λf u=>?_) rfl y K (λE p x F g=>(MG g y ad af ah).mono ?_) (λE p x F g T hF=>(Aet g i (ws 8)).mono ?_)).mono ?_
 ·have:=r.tab f u;rw[show sh.table/8+f=16+f by have:=r.sh.table;have e:(Fp ws sh).sh.table=sh.table:=rfl;omega,show ws (16+f)=(Fp ws sh).ws (16+f)from rfl,this];exact(r.tk f u).right
 ·rintro e j⟨ar,rfl,R,l⟩;obtain⟨z,c,rfl,_,_⟩:=DR R;exact⟨⟨z,_,c,rfl⟩,l⟩
 ·rintro e av⟨rfl,al,C,v,Q,k⟩;obtain⟨m,an,aa,W⟩:=Ait Q i.none;refine⟨rfl,al,C,v,k,k.touch.mono hF,(uo v W).mono ?_⟩;rintro e aw⟨rfl,am,D,V,n,A,B,t,-⟩;exact⟨rfl,am,D,V,t,t.touch.mono (λb l=>(k.own b l).elim (hF b) (λh=>.inr (Bi T h))),m.trans ⟨A,λab J _=>B ab J⟩,aa,n⟩
 ·rintro e j⟨p,x,F,a,rfl,g,⟨m,X,n⟩,U,hF,_⟩;exact⟨p,x,F,a,X,rfl,g,n,m,U,hF⟩
def Ae0{i:St}{v:UInt64}{l:List Lk}(h:Dh i v l)(n:Nat):∀b∈l.dropWhile (newer n),b.rc.stamp.toNat<=n:=by
 induction h with
 |nil=>exact λ_ h=>(nomatch h)
 |cons j g l _ _ _ _ e f=>
  intro b a;rw[List.dropWhile_cons]at a;split at a
  ·exact f b a
  ·rename_i c;have d:g.stamp.toNat<=n:=by
    unfold newer at c;simpa using c
   rcases List.mem_cons.1 a with rfl|a
   ·exact d
   ·have:=e b a;omega
def Ae1{x p:Nat}{F:Nat->Prop}(i:Ix w x d p L s F)(u:Ce L s items ch)(r:wordsAt s.ws 0 8=wordsOf s.sh)(v:∀z,∀C∈ch z,C.rc.stamp.toNat<=(s.ws 8).toNat)(q:(s.ws 8).toNat<=60000):
 Calls prog 10 #[Az d] w λg j=>∃p x f,g=.returned (.tuple #[.agg #[Az p,Az x,.int .u64 ((s.ws 8).toNat:Int)],.int .i64 0])/\
  Ix j x d p L (Fp s.ws s.sh) f/\Ce L (Fp s.ws s.sh) items ch/\η w j:=by
 obtain⟨N,H,K,G,E,own,a,hF⟩:=i.sys;have c:=((Loose.start u).opened.1).ok (λ_ h=>h);have e:=c.ix.ok;obtain⟨I,J,M,l,A,m,n,B,o,_⟩:=aW c;refine(Aio (s:=Fp s.ws s.sh) a.L0 a.L1 a.shape a.dev.1 a.tabs (λh=>a.g1 (.inl h)) (λh=>a.g2 (.inl h)) r (λb k=>?_) rfl l m n o q (by rw[A];exact Abb c.y v) (λD p x F i=>uj i l m n o B (QI e))).mono ?_
 ·have:=e.tab b k;rw[show s.sh.table/8+b=16+b by have:=e.sh.table;have g:(Fp s.ws s.sh).sh.table=s.sh.table:=rfl;omega,show s.ws (16+b)=(Fp s.ws s.sh).ws (16+b)from rfl,this];exact(e.tk b k).right
 ·rintro g j⟨p,x,f,rfl,y,t,_,_⟩;exact⟨p,x,f,rfl,y,c,t⟩
end
def uw{w:World}{a:Addr}{n:Nat}{l:List UInt8}(c:Nat)(h:Bs w (some a) n l):(convert 23 9 (.slice (some a) n c)).run prog w=.ok (.string ⟨l.toArray⟩) w:=by
 have f:=h.len;subst f;refine run_convert_bytes_back w 23 9 5 a c l underlying23 underlying5 underlying9 λi e=>?_
 obtain⟨_,g,j,b,_,d⟩:=Bs.at h e;injection b with b
 subst b;rw[<-d];congr 1;simp[Addr.add]
section
variable{w:World}{d p L:Nat}{s:St}{F:Nat->Prop}
def Ap1(h:Sys w d p L s F):Calls prog 11 #[Az d] w λf e=>∃g c,f=.returned (.slice (some g) (64*L) c)/\Bs e (some g) (64*L) (dN s.ws L)/\η w e:=by
 obtain⟨t,i,r,o,n,own,a,hF⟩:=h;refine(Ac2 a.dev.1 a.L0 a.L1).mono ?_;rintro f e⟨u,rfl,k,i⟩;obtain⟨m,c,rfl,_,b⟩:=DR k;rw[Nat.mul_one]at b;have q:=a.L0;obtain⟨j,l,rfl,_⟩:=b.2 O;exact⟨(Δ j l),c,rfl,b,i⟩
def Ap2(h:Sys w d p L s F):∃b:Int,∀a,η w a->Calls prog 12 #[Az d] a λg j=>g=.returned (.int .i64 b)/\a=j:=by
 obtain⟨t,o,r,m,l,own,f,hF⟩:=h;obtain⟨n,q,e,_⟩:=f.dev.1;obtain⟨b,c⟩:=e.box;refine⟨b,λa i=>?_⟩;have k:=(c.ξ i).cell 3;simp only[Ag,AB]at k;clear c e f hF;go_enter func12,ntmps12
 go_wp2_with fail
 go_ret;exact⟨rfl,rfl⟩
end
def Ae2{m:Ef}{w:World}{x d p L:Nat}{s0 s:St}{F:Nat->Prop}{items:List Kv}{ch:List UInt8->List Lk}{n:Nat}(E:(n≠0/\m=.up (MU n))\/(n=0/\m=.down (λws'=>ws'=s.ws)))(h:IU m w x d p L s F)(r:Ce L s items ch){v:Value}{l:List Wr}{B:Nat->Prop}(u:H7 w B v l)
 (G:∀k∈l,Dx k=true)(I:VQ l)(D:l.length<=16)(f:(s.ws 8).toNat<60000)(H:∀K,∀k∈ch K,k.rc.stamp.toNat<=(s.ws 8).toNat)(y:s.sh=s0.sh)(q:∀j,j<8->s.ws j=s0.ws j):
 Calls prog 8 #[wV d p x,v] w λa g=>∃(c:Int)(b:Ms)(e:Nat->Prop),a=.returned (.int .i64 c)/\Yj g x d p L b e/\AP F e w g/\∀ws',b.pw.mode.may b.s.ws ws'->Found L s0 G60 ws':=by
 have t:(s.ws 8+1).toNat<=60000:=by rw[UInt64.toNat_add];simp;omega
 rcases E with⟨_,rfl⟩|⟨_,rfl⟩
 ·refine(Aa9 (lf:=(n:Int)) h r u G I D f H (Ap0 (Il f) t)).mono ?_;rintro a g⟨c,rfl,b,e,C,J,A⟩;exact⟨c,b,e,rfl,J,A,λws' i=>(mG C (Il f) t i).from y q⟩
 ·obtain⟨z,c,rfl⟩:=u.slice;refine(Aiw h.sys z l.length c).mono ?_;rintro a g⟨rfl,o⟩;exact⟨12,⟨.down (λws'=>ws'=s.ws),s⟩,F,rfl,h.below o,AP.of_below o,λws' i=>by
   have a:ws'=s.ws:=i;rw[a];exact(Nq r (Il f)).from y q⟩
def eG(l:List (List Wr))(A:Option Addr)(c K:Nat)(B:Option Addr)(v:List UInt8)(a5:Nat)(w:World)(dW:l.length<=maxLen)(h:Xf w A l)(fg:K<256)(eJ:v.length<=a5)(dz:Bs w B v.length v)(dC:∀W,B=some W->W.block<w.heap.size)(cz:Tabs w):
 Calls prog 3 #[.slice A l.length c,.agg #[.int .u8 (K:Int),.slice B v.length a5]] w λk e6=>k=.returned (.bool true)/\η w e6:=by
 obtain⟨aw,dL,af,ca⟩:=Fz w 25 [.int .u8 (K:Int),.slice B v.length a5];have ce:Hid (∀bL,η aw bL->bL.cell? (Φ w.heap.size)=some (.int .u8 (K:Int))/\bL.cell? (Δ w.heap.size 1)=some (.slice B v.length a5)):=Aa (λbL e=>(ca.ξ e).p2);have c6:=Aa (Al5 uq (cz.below af));have dj:=Aa (λb(e:η aw b)=>Apa l A c b dW ((h.below af).below e));obtain⟨sh,bk⟩:=ε FT;have am:=VC;rw[<-bk]at am;have cd:=Aa (λb(e:η aw b)=>Aa8 (w:=b) (L:=100) U U am ((cz.below af).below e));rw[show((100:Nat):Int)=100 from rfl]at cd;have bo:=Aa (yO (L:=100) U am);have bt:Hid (((st0 sh).ws 8).toNat=0):=Aa (by rw[show(st0 sh).ws 8=0 from I7 sh 8 U];rfl);have et:=Aa am;have em:=Aa (dz.below af);have el:Hid (∀W,B=some W->W.block<aw.heap.size):=Aa (λW cs=>Nat.lt_of_lt_of_le (dC W cs) af.size);have b5:=Aa af;have eu:=Aa dL;have fb:IntKind.i64.wrap (K:Int)=(K:Int):=IntWalk.i64_in _ O;have ab:=ca.p2;clear cz h dW am bk dz dC dL af ca ab;go_enter func3,ntmps3
 go_wp2_with fail
 rw[<-eu.out];refine c6.out.mono ?_;rintro k e7⟨rfl,E⟩;have cc:=Aa E;clear E c6
 go_wp2_with fail
 refine(dj.out e7 cc.out).mono ?_;rintro k t⟨dM,eN⟩;have I:=Aa (τ cc.out dM);obtain⟨ab,aH⟩:=ce.out t I.out;rcases eN with rfl|⟨fn,m,rfl,cG,fc⟩
 ·go_wp2_with fail
  go_ret;exact⟨rfl,τ b5.out I.out⟩
 by_cases cE:(100:Int)<(v.length:Int)
 ·have t1:decide ((100:Int)<(v.length:Int))=true:=decide_eq_true cE;have t2:decide (100<v.length)=true:=decide_eq_true O
  go_wp2_with fail
  go_ret;exact⟨rfl,τ b5.out I.out⟩
 have t1:decide ((100:Int)<(v.length:Int))=false:=decide_eq_false cE;have t2:decide (100<v.length)=false:=decide_eq_false O;have eK:v.length<=1000000000:=O;obtain⟨cY,cr,rfl,_⟩:=id cG;have dg:Hid (OX t (λa=>t.heap.size<=a) (.slice cY m.length cr) m):=Aa (cG.mono (λa bN cv=>O));clear cG dM cc dj
 go_wp2_with fail
 refine(cd.out t I.out).mono ?_;rintro k eb⟨d,p,x,F,rfl,cN,a8,hF,eR⟩;obtain⟨u,b1⟩:=ε eb.heap.size;obtain⟨eB,co,bR,-⟩:=Fz eb 34 [Az d,Az p,Az x];have c1:CQ eB u 34 [Az d,Az p,Az x]:=by rw[b1];exact co▸heap_alloc_new _ _
 have c7:=Aa ((τ I.out a8).trans (bR.mono (Bi I.out.size a8.size)));have ck:=Aa (cN.below bR);have de:=Aa ((dg.out.below a8).below bR);have cW:=Aa c1;have c9:Hid (∀a,F a->t.heap.size<=a/\a≠u):=Aa (λa N=>⟨hF a N,Ω (cN.sys.lt a N)⟩);have ea:=Aa co;have dl:=Aa b1;have eg:Hid (t.heap.size<=u):=Aa (by rw[b1];exact a8.size);clear cd cN a8 hF eR bR c1 co b1 dg ab aH t1 t2 cE;unfold wV;obtain⟨s0,cI⟩:=ε (st0 sh);rw[<-cI]at ck bo bt;have cj:=Aa cI;clear cI
 go_wp2_with fail
 rw[<-ea.out,<-dl.out]
 go_wp2_with fail
 go_loopw [40](λaD wr=>∃(e:Nat)(q:Ms)(F:Nat->Prop),e<=m.length/\aD=.int .i64 (e:Nat)/\Yj wr x d p 100 q F/\(∀ws',q.pw.mode.may q.s.ws ws'->Found 100 s0 G60 ws')/\
  (e<m.length->q.pw=.up (-1)/\∃items ch,Ce 100 q.s items ch/\(q.s.ws 8).toNat<=e/\(∀Z,∀z∈ch Z,z.rc.stamp.toNat<=(q.s.ws 8).toNat)/\(q.s.sh=s0.sh/\∀i,i<8->q.s.ws i=s0.ws i))/\(∀a,F a->t.heap.size<=a/\a≠u)/\
  OX wr (λa=>t.heap.size<=a) (.slice cY m.length cr) m/\CQ wr u 34 [Az d,Az p,Az x]/\η aw wr)(λaD _=>m.length-(intOf aD).toNat)
 case atStart=>exact⟨0,⟨.up (-1),s0⟩,F,Nat.zero_le _,rfl,ck.out,λws' cL=>by
  have k:ws'=s0.ws:=cL;rw[k];exact Nq bo.out (by rw[bt.out];decide),λ_=>⟨rfl,[],λ_=>[],bo.out,by rw[bt.out];exact Ad _,λ_ _ h=>(nomatch h),rfl,λ_ _=>rfl⟩,c9.out,de.out,cW.out,c7.out⟩
 case round=>
  obtain⟨e,q,cb,cC,rfl,X,bT,bm,az,a7,aq,E⟩:=hrel;clear ck bo c9 c7 de cW ea dl bt;by_cases aB:e<m.length
  ·obtain⟨d6,items,ch,ba,a6,bc,bE,bV⟩:=bm aB;obtain⟨fm,s⟩:=q;simp only at d6 ba a6 bc bE bV;subst d6;have X:Ix wr x d p 100 s cb:=X;have eh:(e:Int)<(m.length:Int):=O;have eO:decide ((e:Int)<(m.length:Int))=true:=decide_eq_true eh;have eP:decide (e<m.length)=true:=decide_eq_true aB;have fj:=jh e O;have fk:IntKind.i64.wrap ((m.length:Int) -1)=(m.length:Int) -1:=IntWalk.i64_in _ O;obtain⟨fa,ff,dv,cH,cA⟩:=id a7;simp only[Value.slice.injEq,true_and]at dv;obtain⟨rfl,rfl⟩:=dv;obtain⟨a,e0,rfl,fh,cB⟩:=cH.1.2 O;have b3:=cB e aB;rw[CB,Ae aB,DJ]at b3;obtain⟨bb,ah⟩:=cA _ (List.getElem_mem aB);generalize m[e]=e2 at*;obtain⟨e5,set⟩:=e2;simp only at b3 bb ah;obtain⟨C,ac,ad⟩:=aq.p3;obtain⟨ab,aH⟩:=ce.out wr E;have J:=Aa az;have ep:=Aa a7;have a0:=Aa aq;have aM:=Aa E;have av:=Aa bc;have er:=Aa ba;have ex:=Aa X;have cg:=Aa (And.intro bE bV);have c5:=Aa a6;have eZ:=Aa bb;have b6:=Aa ah;have bA:Hid (∀(r:World)(be:Ms)(o:Nat->Prop),Yj r x d p 100 be o->AP cb o wr r->(∀a,o a->t.heap.size<=a/\a≠u)/\
    OX r (λa=>t.heap.size<=a) (.slice (some (Δ a e0)) m.length cr) m/\CQ r u 34 [Az d,Az p,Az x]/\η aw r):=Aa (λr be o D y=>
    ⟨λa N=>(y.own a N).elim (J.out a) (λh=>Ψ a0.out.lt eg.out),ep.out.moved (⟨y.touch.mono (λa N=>(J.out a N).1),λa h=>.inl h⟩:AP (λa=>t.heap.size<=a) (λa=>t.heap.size<=a) wr r),a0.out.touch y.touch (λh=>(J.out _ h).2 rfl),aM.out.trans (y.touch.below aM.out.size (λa h=>Bi I.out.size (J.out a h).1))⟩)
   by_cases fi:e+1=m.length
   ·have e4:((e:Int)==(m.length:Int) -1)=true:=by rw[beq_iff_eq];omega
    have dh:=Aa (sV (lf:= -1) X.sys K O);have V:=Aa (λ(cQ:Ef)(b:World)(c3:Nat->Prop)(bW:(K≠0/\cQ=.up (MU K))\/(K=0/\cQ=.down (λws'=>ws'=s.ws)))(b2:IU cQ b x d p 100 s c3)(b0:H7 b (λa=>t.heap.size<=a) e5 set)=>Ae2 (s0:=s0) bW b2 er.out b0 b6.out.1 b6.out.2.1 b6.out.2.2 (Ω c5.out) av.out cg.out.1 cg.out.2);unfold wV at V;clear X ba az a7 aq E bb ah bc bE bV cH cA cB a6 bT bm
    go_wp2_with fail
    refine dh.out.mono ?_;rintro k T⟨⟨fp,rfl⟩,eV,ek,d4,a4,bW⟩;have an:=ex.out.move d4 a4;have dr:=a0.out.touch a4.touch (λh=>(J.out _ h).2 rfl);have bw:=V.out eV T ek bW an (eZ.out.moved (⟨a4.touch.mono (λa N=>(J.out a N).1),λa h=>.inl h⟩:AP (λa=>t.heap.size<=a) (λa=>t.heap.size<=a) wr T));have bw:=Aa bw;have eS:=Aa a4;clear dh V d4 a4 bW an C ac ad;obtain⟨C,ac,ad⟩:=dr.p3;clear dr
    go_wp2_with fail
    refine bw.out.mono ?_;rintro k r⟨M,be,o,rfl,D,y,dT⟩;have cl:=Aa D;have cf:=Aa dT;have ci:=Aa (bA.out r be o D (eS.out.trans y));clear D y dT bw bA C ac ad ab aH b3
    go_wp2_with fail
    go_roundw
    case rel=>exact⟨e+1,be,o,O,by go_num,cl.out,cf.out,λh=>absurd h O,ci.out⟩
    case measure=>simp[intOf];omega
   ·have e4:((e:Int)==(m.length:Int) -1)=false:=ζ O;have V:=Aij X ba bb ah.1 ah.2.1 ah.2.2 O bc;unfold bF wV at V;have V:=Aa V;clear X ba az a7 aq E bb ah bc bE bV cH cA cB a6 bT bm
    go_wp2_with fail
    refine V.out.mono ?_;clear V;rintro k r dR;have eI:∃(du:Int)(j:St)(o:Nat->Prop)(ap:List Kv)(M:List UInt8->List Lk),k=.returned (.int .i64 du)/\Ix r x d p 100 j o/\AP cb o wr r/\Ce 100 j ap M/\(j.ws 8).toNat<=e+1/\(∀Z,∀z∈M Z,z.rc.stamp.toNat<=(j.ws 8).toNat)/\(j.sh=s0.sh/\∀i,i<8->j.ws i=s0.ws i):=by
     obtain⟨dX,d0⟩:=cg.out;have a6:=c5.out;rcases dR with⟨rfl,j,o,al,cD,D,y⟩|⟨rfl,j,o,bO,am,eM,⟨ap,M,al,bp⟩,D,y⟩
     ·have dt:j.ws 8=s.ws 8:=cD.2 8 U U;exact⟨6,j,o,items,ch,rfl,D,y,al,by rw[dt];omega,λZ z G=>by rw[dt];exact av.out Z z G,cD.1.trans dX,λi a9=>(cD.2 i O O).trans (d0 i a9)⟩
     ·exact⟨0,j,o,ap,M,rfl,D,y,al,O,λZ z G=>by rw[bO];exact bp Z z G,am.trans dX,λi a9=>(eM i O O O).trans (d0 i a9)⟩
    obtain⟨du,j,o,ap,M,rfl,D,y,al,bO,bp,bq⟩:=eI;have cl:=Aa D;have cf:Hid (∀ws',Pw.mode (.up (-1))|>.may j.ws ws'->Found 100 s0 G60 ws'):=Aa (λws' cL=>by
     have k:ws'=j.ws:=cL;rw[k];exact(Nq al O).from bq.1 bq.2)
    have en:Hid (∃items ch,Ce 100 j items ch/\(j.ws 8).toNat<=e+1/\(∀Z,∀z∈ch Z,z.rc.stamp.toNat<=(j.ws 8).toNat)/\(j.sh=s0.sh/\∀i,i<8->j.ws i=s0.ws i)):=Aa ⟨ap,M,al,bO,bp,bq⟩;have ci:=Aa (bA.out r ⟨.up (-1),j⟩ o D y);clear dR D y al bO bp bq bA C ac ad ab aH b3
    go_wp2_with fail
    go_roundw
    case rel=>exact⟨e+1,⟨.up (-1),j⟩,o,O,by go_num,cl.out,cf.out,λ_=>⟨rfl,en.out⟩,ci.out⟩
    case measure=>simp[intOf];omega
  ·obtain⟨eO,eP⟩:=uH aB;obtain⟨C,ac,ad⟩:=aq.p3;obtain⟨ab,aH⟩:=ce.out wr E;have d3:(∃lf,q.pw.mode=.up (MU lf))\/∃P,q.pw.mode=.down P:=by
    cases q.pw with
    |up lf=>exact .inl ⟨lf,rfl⟩
    |down P=>exact .inr ⟨P,rfl⟩
   have c8:=Aa (bC d3 X.sys B v.length a5 v eK ⟨eJ,em.out.below E,λW cs eL=>Ξ (el.out W cs) ((az _ eL).1) I.out.size⟩);have da:=Aa bT;have J:=Aa az;have a0:=Aa aq;have aM:=Aa E;clear X bT bm az a7 aq E d3
   go_wp2_with fail
   refine c8.out.mono ?_;rintro k fr⟨⟨fo,rfl⟩,ws',own,d2,dS,dn,cK,dI,dx,dy⟩;obtain⟨d1,Y,ap,ch,cx,G⟩:=da.out ws' d2;have cM:wordsAt ws' 0 8=wordsOf s0.sh:=Ao0 (s:=Fp ws' s0.sh) (sh:=sh) (by rw[cj.out];rfl) (λi a9=>by rw[show(Fp ws' s0.sh).ws i=ws' i from rfl,d1 i a9,cj.out]);have bk:shapeOf 100=some s0.sh:=by rw[cj.out];exact et.out
   have dc:=Aa (Aez (L:=100) U U bk dS dI dx dy cM G cx);have cp:=a0.out.touch cK (λh=>(J.out _ h).2 rfl);have dm:=Aa (aM.out.trans (cK.below aM.out.size (λa h=>Bi I.out.size (J.out a h).1)));have ev:=Aa cp;have dp:Hid (∀a,own a->t.heap.size<=a/\a≠u):=Aa (λa N=>J.out a (dn a N));have dk:=Aa cM;have cm:=Aa G;have c4:Hid ((ws' 8).toNat<=60000):=Aa cx;clear c8 da d2 dS dn cK dI dx dy d1 cx G cM bk C ac ad ab aH;obtain⟨C,ac,ad⟩:=cp.p3;clear cp
   go_wp2_with fail
   refine dc.out.mono ?_;rintro k ec⟨d9,ed,fd,Q,fl,rfl,d8,cJ,br,cT,eE⟩;have dq:=ev.out.touch cT (λh=>(dp.out _ h).2 rfl);have ey:=Aa (dm.out.trans (cT.below dm.out.size (λa h=>Bi I.out.size (dp.out a h).1)));have cy:Q.ws 8=ws' 8:=br.2 8 U U;have b7:∀e,∀z∈(ch e).dropWhile (newer (ws' 8).toNat),z.rc.stamp.toNat<=(Q.ws 8).toNat:=λe z G=>by
    rw[cy];by_cases cC:∀cP∈ap,cP.1≠e
    ·rw[cm.out.none e cC]at G;cases G
    ·obtain⟨cP,bN⟩:=Classical.not_forall.1 cC;obtain⟨cv,cw⟩:=Classical.not_imp.1 bN;have cw:=Classical.not_not.1 cw;exact Ae0 (cm.out.chain cP cv).1 _ z (by rw[cw];exact G)
   have d7:wordsAt Q.ws 0 8=wordsOf Q.sh:=by
    rw[br.1];refine Eq.trans ?_ dk.out;apply List.ext_getElem
    ·simp[wordsAt]
    ·intro aD bN cv;have:aD<8:=by simpa[wordsAt]using bN
     rw[Gf,Gf,Nat.zero_add];exact br.2 aD O O
   obtain⟨n,bl⟩:=ε ((ws' 8).toNat);have bs:(Q.ws 8).toNat=n:=by rw[cy,bl]
   rw[<-bl];obtain⟨aG,bX⟩:=ε ec.heap.size;obtain⟨T,bd,bS,-⟩:=Fz ec 45 [Az d9,Az ed,.int .u64 (n:Int)];have c2:CQ T aG 45 [Az d9,Az ed,.int .u64 (n:Int)]:=by rw[bX];exact bd▸heap_alloc_new _ _
   have ds:=dq.ξ bS;have aR:Hid (∀b,η T b->b.cell? (Φ u)=some (Az d)/\b.cell? (Δ aG 2)=some (.int .u64 (n:Int))):=Aa (λb e=>⟨(ds.ξ e).cell 0,(c2.ξ e).cell 2⟩);have an:=d8.below bS;obtain⟨ao,dV⟩:=ε (dN Q.ws 100);have bx:=Aa (λb(e:η T b)=>by have q:=Ap1 (an.below e).sys;rw[<-dV]at q;exact q);rw[show 64*100=6400 from rfl]at bx;obtain⟨cR,d5⟩:=Ap2 an.sys;have av:=Aa d5;have dd:=Aa (λb(e:η T b)=>by have q:=Ae1 (an.below e) cJ d7 b7 (by rw[bs,bl];exact c4.out);rw[bs]at q;exact q);have fe:=Aa cJ;have es:=Aa b7;have eo:=Aa bs;have eW:=Aa (τ ey.out bS);clear C ac ad;obtain⟨C,b4⟩:=aR.out T (Below.refl _ _);rw[bd]at C;rw[bd,bX]at b4;have ew:=Aa bd;have ez:=Aa bX;clear dc d8 cJ br cT eE dq cy b7 d7 bl bs bX bd bS c2 ds an dV d5 cm dk c4
   go_wp2_with fail
   rw[<-ew.out,<-ez.out];refine(bx.out T (Below.refl _ _)).mono ?_;rintro k r⟨ct,M,rfl,dU,dO⟩;have a3:=Aa dO;have db:=Aa dU;clear dU dO C b4;obtain⟨C,b4⟩:=aR.out r a3.out
   go_wp2_with fail
   refine(av.out r a3.out).mono ?_;rintro k cS⟨rfl,rfl⟩
   go_wp2_with fail
   refine(dd.out r a3.out).mono ?_;rintro k cS⟨aE,aL,c3,rfl,b2,b0,cq⟩;obtain⟨H,cF⟩:=ε cS.heap.size;obtain⟨R,b8,bB,-⟩:=Fz cS 45 [Az aE,Az aL,.int .u64 (n:Int)];have c0:CQ R H 45 [Az aE,Az aL,.int .u64 (n:Int)]:=by rw[cF];exact b8▸heap_alloc_new _ _
   have cU:=b2.below bB;have ar:η T R:=τ a3.out (τ cq bB);have b9:Hid (∀b,η R b->b.cell? (Φ u)=some (Az d)/\b.cell? (Δ aG 2)=some (.int .u64 (n:Int))/\b.cell? (Φ H)=some (Az aE)/\b.cell? (Δ H 1)=some (Az aL)/\b.cell? (Δ H 2)=some (.int .u64 (n:Int))):=Aa (λb e=>⟨(aR.out b (τ ar e)).1,(aR.out b (τ ar e)).2,(c0.ξ e).p3⟩);have ee:=Aa (λb(e:η R b)=>bx.out b (τ ar e));have ef:=Aa (λb(e:η R b)=>av.out b (τ ar e));have eA:=Aa (λb(e:η R b)=>by have q:=Aiu (cU.below e) b0 es.out;rw[show((Fp Q.ws Q.sh).ws 8).toNat=n from eo.out]at q;exact q);have cX:=Aa (db.out.below (τ cq bB));have e1:=Aa (τ eW.out ar);have ei:=Aa b8;have eq:=Aa cF;clear dd bx av aR b2 b0 cq b8 bB cF c0 cU ar C b4 db a3
   go_wp2_with fail
   rw[<-ei.out,<-eq.out];refine wp_region_held_drew (S:=(λb=>(b.cell? (Φ u)=some (Az d)/\b.cell? (Δ aG 2)=some (.int .u64 (n:Int))/\b.cell? (Φ H)=some (Az aE)/\b.cell? (Δ H 1)=some (Az aL)/\b.cell? (Δ H 2)=some (.int .u64 (n:Int)))/\Bs b (some ct) 6400 ao)) Γ ⟨b9.out R (Below.refl _ _),cX.out⟩ (λf=>?_);refine Fq 0 (.int .i64 0) f ?_;refine Fq 1 (.bool true) f ?_;refine Fq 2 (.bool true) f ?_;refine Fq 3 (.int .i64 0) f ?_
   try simp only[Act.put,Aq,Am,Ah,Af,Ap,Au]
   refine Fq 4 (.bool true) f ?_;refine Fq 5 (.bool true) f ?_;refine Fq 6 (.bool true) f ?_;refine Fq 7 (.pointer (some (Δ aG 2))) f ?_
   try simp only[Act.put,Aq,Am,Ah,Af,Ap,Au]
   refine Fq 8 (.int .u64 (n:Int)) f (hy:=λw g=>by obtain⟨⟨s0,bg,bh,bi,bj⟩,-⟩:=g;go_simp) ?_;refine Fq 9 (.pointer (some (Δ H 2))) f ?_;refine Fq 10 (.int .u64 (n:Int)) f (hy:=λw g=>by obtain⟨⟨s0,bg,bh,bi,bj⟩,-⟩:=g;go_simp) ?_;refine Fq 11 (.bool true) f (hy:=λw g=>by clear g;have q:((n:Int)==(n:Int))=true:=Θ;go_simp) ?_
   try simp only[Act.put,Aq,Am,Ah,Af,Ap,Au]
   refine Fq 12 (.bool true) f ?_;refine Fq 13 (.bool true) f ?_;refine Fq 14 (Az u) f ?_;refine Fq 15 (Az d) f (hy:=λw g=>by obtain⟨⟨s0,bg,bh,bi,bj⟩,-⟩:=g;go_simp) ?_
   try simp only[Act.put,Aq,Am,Ah,Af,Ap,Au]
   refine Fq 18 (.slice (some ct) 6400 M) f ?_;refine Fq 19 (.string ⟨ao.toArray⟩) f (hy:=λw g=>by obtain⟨-,e3⟩:=g;have q:=uw (w:=w) M e3;go_simp) ?_
   try simp only[Act.put,Aq,Am,Ah,Af,Ap,Au]
   refine wpAnyH_ready (rs:=[16]) Γ Θ ?_;refine AllReadyH.cons rfl (λa1 aa=>?_) AllReadyH.nil;go_simp;go_at_call 11;refine(ee.out _ ((Dr.drew _).below _)).mono ?_;rintro k e8⟨eD,eC,rfl,ej,eT⟩;have a2:η R e8:=((Dr.drew R).below _).trans eT;refine aa.out _ _ (⟨b9.out _ a2,cX.out.below a2⟩) (λf=>?_);clear aa a1;refine TV (S':=λb=>(b.cell? (Φ u)=some (Az d)/\b.cell? (Δ aG 2)=some (.int .u64 (n:Int))/\b.cell? (Φ H)=some (Az aE)/\b.cell? (Δ H 1)=some (Az aL)/\b.cell? (Δ H 2)=some (.int .u64 (n:Int)))/\Bs b (some ct) 6400 ao/\Bs b (some eD) 6400 ao) (λ_ h=>⟨h.1,h.2.1⟩) _ _ _ _ ?_;replace f:=And.intro f.1 (And.intro f.2 ej)
   try simp only[Act.put,Aq,Am,Ah,Af,Ap,Au]
   refine Fq 17 (.string ⟨ao.toArray⟩) f (hy:=λw g=>by obtain⟨-,-,Q⟩:=g;have q:=uw (w:=w) eC Q;go_simp) ?_;refine Fq 20 (.bool true) f (hy:=λw g=>by clear g;have q:((⟨ao.toArray⟩:ByteArray)==⟨ao.toArray⟩)=true:=(by rw[Ag2];simp);go_simp) ?_;refine Fq 21 (.bool true) f ?_;refine Fq 22 (.bool true) f ?_
   try simp only[Act.put,Aq,Am,Ah,Af,Ap,Au]
   refine Fq 23 (Az u) f ?_;refine Fq 24 (Az d) f (hy:=λw g=>by obtain⟨⟨s0,bg,bh,bi,bj⟩,-⟩:=g;go_simp) ?_;refine Fq 26 (.int .i64 cR) f ?_
   try simp only[Act.put,Aq,Am,Ah,Af,Ap,Au]
   refine wpAnyH_ready (rs:=[25]) Γ Θ ?_;refine AllReadyH.cons rfl (λa1 aa=>?_) AllReadyH.nil;go_simp;go_at_call 12;refine(ef.out _ a2).mono ?_;rintro k fq⟨rfl,rfl⟩;refine aa.out _ _ (f) (λf=>?_);clear aa a1
   try simp only[Act.put,Aq,Am,Ah,Af,Ap,Au]
   refine Fq 27 (.bool true) f (hy:=λw g=>by clear g;have q:((cR:Int)==cR)=true:=Θ;go_simp) ?_;refine Fq 28 (.bool true) f ?_;refine Fq 29 (.bool true) f ?_
   try simp only[Act.put,Aq,Am,Ah,Af,Ap,Au]
   refine Fq 30 (Az u) f ?_;refine Fq 31 (Az d) f (hy:=λw g=>by obtain⟨⟨s0,bg,bh,bi,bj⟩,-⟩:=g;go_simp) ?_;refine Fq 32 (.agg #[Az aE,Az aL,.int .u64 (n:Int)]) f (hy:=λw g=>by obtain⟨⟨s0,bg,bh,bi,bj⟩,-⟩:=g;go_simp) ?_
   try simp only[Act.put,Aq,Am,Ah,Af,Ap,Au]
   refine wpAnyH_ready (rs:=[33]) Γ Θ ?_;refine AllReadyH.cons rfl (λa1 aa=>?_) AllReadyH.nil;go_simp;go_at_call 13;refine(eA.out _ a2).mono ?_;rintro k e9⟨rfl,cn⟩;have cV:η R e9:=τ a2 cn;refine aa.out _ _ (⟨b9.out _ cV,f.2.1.below cn,f.2.2.below cn⟩) (λf=>?_);clear aa a1
   try simp only[Act.put,Aq,Am,Ah,Af,Ap,Au]
   refine Fq 34 (.bool true) f ?_;refine Fq 35 (.bool true) f ?_
   try simp only[Act.put,Aq,Am,Ah,Af,Ap,Au]
   refine wpAnyH_done Γ ?_ _
   go_wp2_with fail
   go_ret;exact⟨rfl,τ b5.out (τ e1.out cV)⟩
end
section
open Go.ChangeShapes Go.WideShapes Go.ChangeAt Go.RowKit
def jd{P:Program}{c:World}{n:String}{g l e len fuel:Nat}{q:IntKind}{f:Array Value}{ns:List Int}{p:List MemPlace}(v:P.globalNamed n=some g)(y:c.var? P n=some f)
 (s:DataW.trod (λ_=>()) P c 0 (λ_=>true) false fuel l f.toList=some (.agg (ns.map λk=>.lit (.int q k)),p))(x:P.underlying l=some (.array len e))(t:P.underlying e=some (.int q))(h1:P.cellsOf e=1)(A:ns.length=len):
 ∀a(h:a<ns.length),c.cell? (Δ g a)=some (.int q ns[a]):=by
 intro a w;obtain⟨z,C,_,j,_,B,u⟩:=DataW.trod_array x s;have i:=u a O;rw[h1,Nat.mul_one,Ae O]at i;obtain⟨k,m,o,_⟩:=DataW.trod_int t i;simp only[Prod.mk.injEq,DataW.agg.injEq]at j;have b:=congrArg (λd=>d[a]?) j.1;simp only[CB,Ae w,Ae (show a<z.length by omega),DJ,Option.some.injEq,o]at b;injection b with b
 injection b with _ b
 rw[World.var?_cell v y a,<-Array.getElem?_toList,b];have r:=congrArg (λd=>d[0]?) m;simpa using r
def laid2:List (String×DataW Unit):=Rows.mendAgainRow.laid
def mJ{d:World}(h:laidMetH prog laid2 d):Tabs d:=by
 rw[MakeChecks.laidMetH_plain _ _ _ Γ]at h;obtain⟨y,⟨u,t0,s,f0,w,z,e,n,p,k,⟨v,t1,t,f1,x,A,f,o,r,l,_,_⟩,_⟩,_,_⟩:=h;obtain rfl:=Option.some.inj ((by kernel_rfl:_=some 1).symm.trans e);obtain rfl:=Option.some.inj ((by kernel_rfl:_=some 0).symm.trans f);obtain rfl:=Option.some.inj ((by kernel_rfl:_=some 78).symm.trans n);obtain rfl:=Option.some.inj ((by kernel_rfl:_=some 285).symm.trans o);have i:prog.cellsOf 5=1:=by kernel_rfl
 have g:prog.cellsOf 226=1:=by kernel_rfl
 have j:=jd (q:=.u8) (ns:=Lib.deBruijn64tab.map Int.ofNat) e p k underlying78 underlying5 i rfl;have m:=jd (q:=.u32) (ns:=LG.map Int.ofNat) f r l underlying285 underlying226 g rfl;refine⟨λb c=>?_,λb c=>?_⟩
 ·have a:b<LG.length:=c;rw[m b (by simpa using a),KN,Bo,Ae a];rfl
 ·have a:b<Lib.deBruijn64tab.length:=c;rw[j b (by simpa using a),KN,Bo,Ae a];rfl
def door_met(os:Os)(args:Array Value):laidMetH prog laid2 ((World.doorLaid prog 400 os).forCall (λ_ _=>0) ⟨#[],args,[]⟩).memory:=
 laidMetH_of_parts3 (fuel:=8) (laidMet_of_run' 8 Γ Γ) Γ Γ
end
section
open Go.ChangeShapes Go.WideShapes Go.ChangeAt Go.RowKit
end
section
open Go.ChangeShapes Go.WideShapes Go.ChangeAt Go.RowKit
def bM{H:Type}{enc:TypeId×Value->H}{f:World}{v:Value}{x:DataW H×List MemPlace}{m:Nat}(Q:DataW.trod enc prog f 0 (λ_=>true) true m 59 [v]=some x):
 ∃r c b,v=.slice r b.length c/\b.length<=maxLen/\b.length<=c/\(r=none->c=0)/\Rd f r (b.length*3) (FQ b):=by
 rcases Go.Deep.open_slice underlying59 Q with⟨p,_⟩|⟨e,o,F,V,am,Z,Pl,p,_,ad,aa,R,_,j⟩
 ·simp only[List.cons.injEq,and_true]at p;exact⟨none,0,[],p,by simp,Ad _,λ_=>rfl,by simp[FQ],λh=>absurd h Θ⟩
 ·simp only[List.cons.injEq,and_true]at p;have af:o<=V:=by rw[R];simp;omega
  have G:prog.cellsOf 61=3:=by kernel_rfl
  have y:∀a,a<o->∃x:Wr,f.cell? (e.add (a*3))=some (.string x.key)/\f.cell? (e.add (a*3+1))=some (.string x.text)/\f.cell? (e.add (a*3+2))=some (.bool x.gone):=λa C=>by
   obtain⟨I,z,J⟩:=j a O;rw[G]at z;obtain⟨_,M,s⟩:=World.cells?_some z;obtain⟨Y,al,ac,ah,_,T,i⟩:=DataW.trod_struct underlying61 J
   match Y,T,I,M with
   |[aq,ar,av],_,[an,ao,ap],_=>
    have f0:=i 0 _ rfl;have f1:=i 1 _ rfl;have f2:=i 2 _ rfl;simp[show prog.cellsOf 9=1 by kernel_rfl,show prog.cellsOf 4=1 by kernel_rfl]at f0 f1 f2;obtain⟨s0,u,_⟩:=DataW.trod_string underlying9 f0;obtain⟨W,w,_⟩:=DataW.trod_string underlying9 f1;obtain⟨X,g,_⟩:=DataW.trod_bool underlying4 f2;simp only[List.cons.injEq,and_true]at u w g;have k:=s 0 O;have l:=s 1 O;have n:=s 2 O;rw[Go.Deep.add_add]at k l n;simp only[Nat.add_zero,Ag,AB,u,w,g]at k l n;exact⟨⟨s0,W,X⟩,k,l,n⟩
  obtain⟨b,N,t⟩:∃b:List Wr,b.length=o/\∀a(h:a<b.length),f.cell? (e.add (a*3))=some (.string b[a].key)/\f.cell? (e.add (a*3+1))=some (.string b[a].text)/\f.cell? (e.add (a*3+2))=some (.bool b[a].gone):=by
   refine⟨(List.range o).pmap (λa j=>(y a j).choose) (λa j=>DY.1 j),by simp,λa C=>?_⟩;have E:a<o:=by simpa using C
   have:=(y a E).choose_spec;simpa using this
  have S:0<o->e=(Δ e.block e.off):=λK=>by
   have L:=Afa (t 0 O).1;have A:e.spot=none:=by simpa[Addr.add]using L
   cases e
   simp only at A;subst A;rfl
  refine⟨some e,F,b,by rw[p,N],O,O,(λq=>nomatch q),Nc b,λK=>?_⟩;have B:=S O;have P:e.block<f.heap.size:=by
   have:=(t 0 O).1;rw[Nat.zero_mul]at this;exact D8 f _ (by simpa[Addr.add]using this)
  refine⟨e.block,e.off,by rw[<-B],P,λd ab=>?_⟩;have D:d/3<b.length:=O;obtain⟨k,l,n⟩:=t (d/3) D;have i:=λa(j:a<3)=>flat_get wrC 3 (λ_=>rfl) b (d/3) a D j
  rw[B,Addr.add_lit]at k l n;rcases(show d%3=0\/d%3=1\/d%3=2 by omega)with q|q|q
  ·have g:d=d/3*3+0:=O;have:=i 0 U;rw[<-g]at this;rw[show(FQ b)[d]?=_ from this];rw[show d/3*3=d by omega]at k;exact k
  ·have g:d=d/3*3+1:=O;have:=i 1 U;rw[<-g]at this;rw[show(FQ b)[d]?=_ from this];rw[<-g]at l;exact l
  ·have g:d=d/3*3+2:=O;have:=i 2 U;rw[<-g]at this;rw[show(FQ b)[d]?=_ from this];rw[<-g]at n;exact n
end
section
open Go.ChangeShapes Go.WideShapes Go.ChangeAt Go.RowKit
def Ap7{a:Int}(h:(Lit.int .u8 a).wf=true):∃b:Nat,a=(b:Int)/\b<256:=by
 have c:0<=a/\a<=255:=by simpa[Lit.wf,IntKind.min,IntKind.max,IntKind.bits,IntKind.signed]using h
 exact⟨a.toNat,O,O⟩
def zB{H:Type}{enc:TypeId×Value->H}{f:World}{v:Value}{d:DataW H}{p:List MemPlace}(h:DataW.Trod enc prog f 0 (λ_=>true) true 22 v d p)(h1:v.cells.toList=[v]):
 ∃m c b,v=.slice m b.length c/\b.length<=maxLen/\Xf f m b:=by
 obtain⟨R,t⟩:=h;rw[h1]at t;rcases Go.Deep.open_slice1 underlying22 Γ t with⟨j,_⟩|⟨g,l,w,G,S,M,L,Pl,j,_,P,N,F,_,k⟩
 ·simp only[List.cons.injEq,and_true]at j;exact⟨none,0,[],j,by simp,λa h=>absurd h Θ⟩
 ·simp only[List.cons.injEq,and_true]at j;have Q:l<=G:=by rw[F];simp;omega
  have q:∀a,a<l->∃x:List Wr,∃e i,f.cell? (g.add a)=some (.slice e x.length i)/\x.length<=maxLen/\Rd f e (x.length*3) (FQ x):=λa n=>by
   obtain⟨B,C⟩:=k a O;obtain⟨m,c,x,y,z,_,_,A⟩:=bM C;exact⟨x,m,c,by rw[B,y],z,A⟩
  obtain⟨b,E,s⟩:∃b:List (List Wr),b.length=l/\∀a(h:a<b.length),∃e i,f.cell? (g.add a)=some (.slice e b[a].length i)/\b[a].length<=maxLen/\Rd f e (b[a].length*3) (FQ b[a]):=by
   refine⟨(List.range l).pmap (λa k=>(q a k).choose) (λa k=>DY.1 k),by simp,λa n=>?_⟩;have u:a<l:=by simpa using n
   have:=(q a u).choose_spec;simpa using this
  refine⟨some g,w,b,by rw[j,E],O,λa n=>?_⟩;obtain⟨e,i,o,I,J⟩:=s a n;obtain⟨_,_,K,_,_⟩:=s 0 O;have D:=Afa K;have r:g.spot=none:=by simpa[Addr.add]using D
  cases g
  simp only at r;subst r;rw[Addr.add_lit]at o;exact⟨_,_,e,i,rfl,D8 f _ o,o,I,J⟩
end
section
open Go.ChangeShapes Go.WideShapes Go.ChangeAt Go.RowKit Go.Joins Go.Deep Go.WideElems Go.Maps
def array2{e:Type}{c:Array e}(h:c.size=2):∃a b,c= #[a,b]:=by
 obtain⟨d⟩:=c
 match d,h with
 |[a,b],_=>exact⟨a,b,rfl⟩
def open_agg2{H:Type}{enc:TypeId×Value->H}{P:Program}{w:World}{e:Nat}{g:Nat->Bool}{f:Bool}{r:Reach}{o:Nat}{c:TypeId}{f0 f1:Field}{v:Value}{d:DataW H}{p:List MemPlace}(l:P.underlying c=some (.struct #[f0,f1]))(k:oneCellFields P #[f0,f1]=true)(x:P.cellsOf c=2)
 (A:VN P w r o c v)(h:DataW.Trod enc P w e g f c v d p):
 ∃(m n:Value)(i j:DataW H×List MemPlace)(b:Nat),v=.agg #[m,n]/\
  DataW.trod enc P w e g f b f0.type [m]=some i/\DataW.trod enc P w e g f b f1.type [n]=some j:=by
 obtain⟨G,rfl,z⟩:=okWide_struct l A;obtain⟨q,s,rfl⟩:=array2 (z.trans x);obtain⟨I,a⟩:=h;obtain⟨F,b,_,_,J,y,a⟩:=DataW.trod_struct l a;obtain⟨D,B⟩:=hone_of k 0 f0 rfl;obtain⟨E,C⟩:=hone_of k 1 f1 rfl;have t:=a 0 f0 rfl;have u:=a 1 f1 rfl
 match F,y with
 |[i,j],_=>exact⟨q,s,i,j,b,rfl,by simpa[Y8,D,B]using t,by simpa[Y8,E,C]using u⟩
def Px{P:Program}{w:World}{r:Reach}{b:Nat}{a:Addr}{e:TypeId}{n:Nat}(h:World.has P w r b a e n):a.block<w.heap.size:=by
 obtain⟨_,_,f,d,h,_⟩:=h;by_cases c:a.block<w.heap.size
 ·exact c
 ·unfold World.shape? at h;rw[Array.getElem?_eq_none O]at h;cases h
def Ap8{f:World}{r:Reach}{j:Nat}{k:Value}{a:Addr}{n c:Nat}(i:VN prog f r j 25 (.agg #[k,.slice (some a) n c])):a.block<f.heap.size:=by
 simp only[VN,underlying25]at i;obtain⟨o,d,_,p,b,_,m⟩:=i;injection d with d
 subst d;have l:prog.cellTypes prog.depth 25=some [5,23]:=by kernel_rfl
 rw[l]at b;injection b with b
 subst b;obtain⟨q,e,g⟩:=m 1 _ rfl;injection e with e
 subst e;simp only[Cell.okWide,Cell.ok,underlying23]at g;exact Px g.2.2
def Aiy{H:Type}{enc:TypeId×Value->H}{e:World}{v:Value}{d:DataW H}{p:List MemPlace}{r:Reach}{t:Nat}(l:VN prog e r t 25 v)(h:DataW.Trod enc prog e 0 (λ_=>true) true 25 v d p):
 ∃(f:Nat)(i:Option Addr)(c:Nat)(a:List UInt8),v=.agg #[.int .u8 (f:Int),.slice i a.length c]/\f<256/\a.length<=maxLen/\a.length<=c/\Bs e i a.length a/\∀g,i=some g->g.block<e.heap.size:=by
 obtain⟨J,K,Q,R,N,m,y,z⟩:=open_agg2 underlying25 Γ Γ l h;obtain⟨P,j,_,G⟩:=DataW.trod_int underlying5 y;obtain⟨f,rfl,s⟩:=Ap7 G;simp only[List.cons.injEq,and_true]at j;rcases open_ints underlying23 underlying5 Γ z with⟨b,_⟩|⟨x,F,n,I,b,_,B,C,E,_,A,D⟩
 ·simp only[List.cons.injEq,and_true]at b;exact⟨f,none,0,[],by rw[m,j,b];rfl,s,by simp,Ad _,⟨rfl,λh=>absurd h Θ⟩,λg u=>nomatch u⟩
 ·simp only[List.cons.injEq,and_true]at b;obtain⟨a,o,L,M⟩:=Abl (w:=e) (a:=some x) (len:=F) (cap:=n) (zs:=I) (.inr ⟨_,rfl,B,C,by simpa using E,A,D⟩);have q:=o.len;refine⟨f,some x,n,a,by rw[m,j,b,q],s,O,O,by rw[q];exact o,λg k=>?_⟩;injection k with k
  rw[m,b]at l;rw[<-k];exact Ap8 l
