import Derived.Test.YtekhjimghoibfaaGreatDoorI09
set_option linter.defProp false
set_option maxHeartbeats 32000000
set_option maxRecDepth 100000
open Nat renaming le_trans->Bi,lt_of_lt_of_le->BI,le_refl->Ad,mod_eq_of_lt->Gm
open Go.World renaming setCell->DF
open Array renaming size_modify->P7,getElem?_modify->Rk,getElem?_eq_some_iff->AA
open Go.Value renaming ownBlock->Ba,int->Aw,slice->Ac
open List renaming length_drop->AU,findIdx?_eq_some_iff_getElem->Le,getElem?_cons_succ->AB,getElem?_cons_zero->Ag,getElem?_map->CB,getElem?_eq_getElem->Ae,length_append->AY,mem_append->AL,mem_singleton->BG,length_cons->BD,getElem_of_mem->Cm,pairwise_iff_getElem->Hz,getElem_set->KL,getElem_drop->XY,length_take->Em,mem_cons->Ea,take_zero->Aja,set_cons_zero->Ap,set_cons_succ->Au,cons_append->Cj,nil_append->EX,map_cons->Ci,map_nil->Gv,take_of_length_le->EP,length_map->BX
open Go.Lib renaming hid->Aa
open UInt64 renaming ofNat->Aj
namespace Go.Proofs.YtekhjimghoibfaaGreatDoor
open Go.RowKit
open Go.Proofs.Tryz
def Tryz.Agr:JE prog 191 197 (.agg #[.slice none 0 0,.int .u64 0,.slice none 0 0,.slice none 0 0,.int .i64 0,.int .u8 0,.int .i64 0]) 7 104:=⟨underlying191,by kernel_rfl,rfl⟩
def CZ(e:TypeId)(w w':World):Prop:=w.heap.size<=w'.heap.size/\∀j,j<w.heap.size->(∃a b,w.heap[j]?=some (.cells a e b))\/w'.heap[j]?=w.heap[j]?
def CZ.of_below{e:TypeId}{w w':World}(a:η w w'):CZ e w w':=⟨a.size,λj b=>.inr (a.block j b)⟩
def CZ.trans{e:TypeId}{a b c:World}(f:CZ e a b)(k:CZ e b c):CZ e a c:=by
 refine⟨Bi f.1 k.1,λj h=>?_⟩;rcases f.2 j h with d|d
 ·exact .inl d
 ·rcases k.2 j (BI h f.1)with⟨i,l,g⟩|g
  ·exact .inl ⟨i,l,d▸g⟩
  ·exact .inr (g.trans d)
def CZ.AZ{e:TypeId}{w:World}{g:Nat}{xs:List Value}(b:CQ w g e xs)(i:Nat)(u:Value):CZ e w (w.setCell (Δ g i) u):=by
 refine⟨by simp[DF,P7],λj c=>?_⟩;by_cases a:j=g
 ·exact .inl ⟨_,_,a▸b⟩
 ·exact .inr (by simp only[DF,Rk];rw[if_neg (λe=>a e.symm)])
def CZ.kept{e:TypeId}{w w':World}{base k n:Nat}{v:Value}{xs:List Value}(d:w.ownsRow base e k v n xs)(c:Kept w w' v.ownBlock):CZ e w w':=by
 refine⟨c.1,λj g=>?_⟩;by_cases a:some j=v.ownBlock
 ·rcases d.2 with⟨b,_⟩|⟨l,h,i,b,_,f,_⟩
  ·subst b;simp[Ba]at a
  ·subst b;simp[Ba]at a;subst a;exact .inl ⟨_,_,f⟩
 ·exact .inr (c.2 j g a)
def CZ.own{e f:TypeId}(o:f≠e){w w':World}{base k n:Nat}{v:Value}{xs:List Value}(s:CZ e w w')(g:w.ownsRow base f k v n xs):w'.ownsRow base f k v n xs:=by
 refine⟨g.1,?_⟩;rcases g.2 with b|⟨d,h,i,b,l,c,m⟩
 ·exact .inl b
 ·refine .inr ⟨d,h,i,b,l,?_,m⟩;rcases s.2 d (AA.1 c).1 with⟨p,q,a⟩|a
  ·rw[c]at a;injection a with a;injection a with _ j;exact absurd j o
  ·rw[a,c]
def CZ.nd{w w':World}{base:Nat}{v:Value}{x:Nd}(s:CZ 197 w w')(h:Yh w base v x):Yh w' base v x:=by
 obtain⟨a,d,b,e,c,f,g,i,j,k⟩:=h;exact⟨a,d,b,e,c,f,g,s.own U i,s.own U j,s.own U k⟩
def Yh.mono{w:World}{base base':Nat}{v:Value}{x:Nd}(i:Yh w base v x)(a:base'<=base):Yh w base' v x:=by
 obtain⟨b,e,c,f,d,g,h,j,k,l⟩:=i;exact⟨b,e,c,f,d,g,h,Fe j a,Fe k a,Fe l a⟩
def PlV(w:World)(base:Nat)(e:List Value)(pl:Pl):Prop:=
 ∃a b c d,e=[a,b,c,d,.int .i64 pl.off,.int .u8 (pl.label.toNat:Int),.int .i64 pl.word]/\Yh w base (.agg #[a,b,c,d]) pl.nd
def WA(w:World)(base:Nat):List (List Value)->List Pl->Prop
 |[],[]=>True
 |a::b,p::c=>PlV w base a p/\WA w base b c
 |_,_=>False
def CZ.pl{w w':World}{base:Nat}{b:List Value}{p:Pl}(s:CZ 197 w w')(a:PlV w base b p):PlV w' base b p:=by
 obtain⟨c,e,f,d,g,a⟩:=a;exact⟨c,e,f,d,g,s.nd a⟩
def CZ.pls{w w':World}{base:Nat}(s:CZ 197 w w'):∀(vs:List (List Value))(b:List Pl),WA w base vs b->WA w' base vs b
 |[],[],_=>trivial
 |_::vs,_::b,a=>⟨s.pl a.1,s.pls vs b a.2⟩
 |[],_::_,a=>a.elim
 |_::_,[],a=>a.elim
def WA.app{w:World}{base:Nat}{c:List Value}{p:Pl}(d:PlV w base c p):∀(vs:List (List Value))(b:List Pl),WA w base vs b->WA w base (vs++[c]) (b++[p])
 |[],[],_=>⟨d,trivial⟩
 |_::vs,_::b,a=>⟨a.1,WA.app d vs b a.2⟩
 |[],_::_,a=>a.elim
 |_::_,[],a=>a.elim
def Oz(w:World)(base:Nat)(v:Value)(b:List Pl):Prop:=
 ∃a,w.ownsRow base 197 7 v b.length (a.flatten)/\WA w base a b
def Oz.nil(w:World)(base:Nat):Oz w base (.slice none 0 0) []:=⟨[],World.ownsRow_nil _ _ _ _,trivial⟩
def Oz.app{w w':World}{base:Nat}{b:Value}{a:List Pl}{vs:List (List Value)}{c:List Value}{p:Pl}(d:WA w base vs a)(f:PlV w base c p)(s:CZ 197 w w')
 (e:w'.ownsRow base 197 7 b (a.length+1) (vs.flatten++c)):Oz w' base b (a++[p]):=
 ⟨vs++[c],by simpa using e,(s.pls vs a d).app (s.pl f)⟩
def Q8(w:World)(base:Nat)(A:Option Addr)(l:List UInt8):Prop:=
 Bs w A l.length l/\∀a d,A=some (Δ a d)->base<=a/\∃b c,w.heap[a]?=some (.cells b 5 c)
def CZ.rs{w w':World}{base:Nat}{A:Option Addr}{l:List UInt8}(s:CZ 197 w w')(e:Q8 w base A l):Q8 w' base A l:=by
 have k:∀a b,A=some (Δ a b)->w'.heap[a]?=w.heap[a]?:=λa b c=>by
  obtain⟨_,h,i,f⟩:=e.2 a b c;rcases s.2 a (AA.1 f).1 with⟨t,u,d⟩|d
  ·rw[f]at d;injection d with d;injection d with _ m;exact absurd m U
  ·exact d
 refine⟨⟨e.1.1,λr=>?_⟩,λa b c=>?_⟩
 ·obtain⟨g,b,c,o,p⟩:=e.1.2 r;exact⟨g,b,c,BI o s.1,λj q=>(World.cell?_of_block (w:=w) (k g b c)).trans (p j q)⟩
 ·obtain⟨n,h,i,f⟩:=e.2 a b c;exact⟨n,h,i,(k a b c).trans f⟩
def Q8.KR{w:World}{base n c:Nat}{A:Option Addr}{l:List UInt8}(d:w.ownsRow base 5 1 (.slice A n c) n (l.map bv))(h:n=l.length):Q8 w base A l:=by
 subst h;refine⟨(CV d).2,λm p a=>?_⟩;rcases d.2 with⟨b,_⟩|⟨o,i,j,b,f,g,_⟩
 ·simp only[Value.slice.injEq]at b;rw[b.1]at a;cases a
 ·simp only[Value.slice.injEq]at b;rw[b.1]at a;injection a with a;injection a with e k;subst e;exact⟨f,_,_,g⟩
def Q8.drop{w:World}{base g off:Nat}{l:List UInt8}(d:Q8 w base (some (Δ g off)) l)(k:Nat)(p:k<=l.length):Q8 w base (some (Δ g (off+k))) (l.drop k):=by
 refine⟨⟨by simp,λi=>?_⟩,λo m a=>?_⟩
 ·simp only[AU]at i;obtain⟨n,m,a,e,f⟩:=d.1.2 O;injection a with a;injection a with b c;subst b c
  refine⟨_,_,rfl,e,λj h=>?_⟩;simp only[AU]at h;rw[Nat.add_assoc,f (k+j) O,List.map_drop,List.getElem?_drop]
 ·injection a with a;injection a with b c;subst b
  exact d.2 _ _ rfl
def Q8.cut{w:World}{base b off c:Nat}{l:List UInt8}(a:Q8 w base (some (Δ b off)) l)(k:Nat)(d:k<=l.length)(f:l.length<=c):Q8 w base (if c=k then some (Δ b off)else some (Δ b (off+k))) (l.drop k):=by
 split
 ·refine⟨⟨by simp,λe=>?_⟩,a.2⟩;simp only[AU]at e;omega
 ·exact a.drop k d
def Kept.trans'{a b c:World}{r:Option Nat}(d:Kept a b r)(k:Kept b c r):Kept a c r:=
 ⟨Bi d.1 k.1,λj e f=>(k.2 j (BI e d.1) f).trans (d.2 j e f)⟩
def Kept.of_below{a b:World}{r:Option Nat}(c:η a b):Kept a b r:=⟨c.size,λj d _=>c.block j d⟩
def Kept.AZ(w:World)(g i:Nat)(u:Value):Kept w (w.setCell (Δ g i) u) (some g):=
 ⟨by simp[DF,P7],λj _ b=>by simp only[DF,Rk];rw[if_neg (λa=>b (by rw[a]))]⟩
def Fg{w w':World}{base k n:Nat}{e:TypeId}{v:Value}{xs:List Value}{r:Option Nat}(d:w.ownsRow base e k v n xs)(l:Kept w w' r)(a:r≠v.ownBlock\/v.ownBlock=none):w'.ownsRow base e k v n xs:=by
 refine⟨d.1,?_⟩
 rcases d.2 with b| ⟨c,g,h,b,i,f,j⟩
 ·exact .inl b
 ·refine .inr ⟨c,g,h,b,i,?_,j⟩
  subst b
  rw [l.2 c (AA.1 f).1 (fun e=>by rcases a with a| a
                                  ·exact a (by rw [<-e];rfl)
                                  ·simp [Ba]at a)]
  exact f
def lenOf:Value->Nat
 | .slice _ a _=>a
 |_=>0
def pV(s:St)(key:List UInt8)(w:World)(e:Ending)(w':World):Prop:=
 η w w'/\match EY s key with
  |none=>e=.returned (.tuple #[.slice none 0 0,.slice none 0 0,.int .i64 5])
  |some (f,a)=>∃d b c,e=.returned (.tuple #[d,.slice b a.length c,.int .i64 0])/\Oz w' w.heap.size d f/\Q8 w' w.heap.size b a/\a.length<=c
def ZF(l:List UInt8):(CG l).length=2*l.length:=by
 induction l with
 |nil=>rfl
 |cons b t a=>simp[CG]at a⊢;omega
def Ags(s:St)(_:Nat)(key:List UInt8)(w:World)(h:Nat)(u7 u8 u10:Value)(wr:World):Prop:=
 ∃(e:Nat)(c:Option Addr)(d:Nat)(a:List UInt8)(g:UInt64)(f:UInt8)(i:Int)(b:List Pl)(j k l m n:Value),
  u7=.slice c a.length d/\u8=.int .u64 (g.toNat:Int)/\Et s e g a f i b=EY s key/\a.length<e/\a.length<=d/\b.length+a.length<=2*key.length/\
  CQ wr h 197 [j,k,l,m,n,.int .u8 (f.toNat:Int),.int .i64 i]/\Oz wr w.heap.size u10 b/\(some h≠u10.ownBlock)/\Q8 wr w.heap.size c a/\η w wr
def gz(l:List UInt64):(Fh l).kids.length<=16/\(Fh l).labels.length<=16:=by
 unfold Fh;split
 ·unfold Afk Jj
  dsimp only
  split<;>simp[digits_length]<;>omega
 ·unfold vF;have:=YK ((l.drop 4).take 16);simp at this;simp[OG];omega
def Ha{s:St}{d:UInt64}{b:Nd}(a:FN s d=some b):b.pre.length<=15/\b.kids.length<=16/\b.labels.length<=16:=by
 unfold FN at a;split at a
 ·cases a
 ·split at a
  ·rename_i c;injection a with a
   subst a;refine⟨?_,(gz _).1,(gz _).2⟩;unfold Ja at c;simp only[Bool.and_eq_true]at c;exact((Bv _).1 c.2.1).1
  ·cases a
def EN{w:World}{g:Nat}{e:TypeId}{a b c d k l m:Value}(f:CQ w g e [a,b,c,d,k,l,m]):w.cell? (Φ g)=some a/\w.cell? (Δ g 1)=some b/\w.cell? (Δ g 2)=some c/\w.cell? (Δ g 3)=some d/\w.cell? (Δ g 4)=some k/\w.cell? (Δ g 5)=some l/\w.cell? (Δ g 6)=some m:=
 ⟨f.cell 0,f.cell 1,f.cell 2,f.cell 3,f.cell 4,f.cell 5,f.cell 6⟩
def wrap64(a:Int)(h1: -9223372036854775808<=a)(h2:a<9223372036854775808):IntKind.i64.wrap a=a:=by
 simp only[IntKind.wrap,IntKind.bits,IntKind.signed,Bool.true_and,decide_eq_true_eq,show(2:Int)^(64-1)=9223372036854775808 from rfl,show(2:Int)^64=18446744073709551616 from rfl];split<;>omega
def Vr{len:Mode}{w:World}{x d p L:Nat}{s:St}{F:Nat->Prop}(f:IU len w x d p L s F){b:UInt64}{l:Nd}(a:FN s b=some l):0<=Bg b/\Bg b<=65536:=by
 obtain⟨q,r,m,e⟩:=f.L0;unfold FN at a;split at a
 ·cases a
 ·rename_i g;obtain⟨o,n,i,k,j,h⟩:=Vp g;rw[k];have:=m.fits;rw[e]at i;rcases j with c|c<;>rw[c]at h⊢<;>omega
def Acn{d:Nd}{c:UInt8}{b:UInt64}{e:Nat}(a:OY d c=some (b,e)):Yd d c=.tuple #[.int .u64 (b.toNat:Int),.int .i64 (e:Int),.bool true]:=by
 unfold OY Jk at a;unfold Yd;split at a
 ·rename_i j h;rw[h];split at a
  ·rename_i i;injection a with a
   injection a with f g
   subst f g;simp only[i,if_true];split<;>rfl
  ·cases a
 ·cases a
def Aco{d:Nd}{c:UInt8}(a:OY d c=none):Yd d c=.tuple #[.int .u64 0,.int .i64 0,.bool false]:=by
 unfold OY Jk at a;unfold Yd;split at a
 ·rename_i f b;rw[b];split at a
  ·cases a
  ·rename_i e;simp only[e];rfl
 ·rename_i b;rw[b]
def xA{c:Nd}{b:UInt8}{g:UInt64}{d:Nat}(a:OY c b=some (g,d))(j:c.labels.length<=16):d<=300:=by
 unfold OY Jk at a;have:=b.toNat_lt;split at a
 ·rename_i k f;have i:=(Le.1 f).1;split at a
  ·injection a with a
   injection a with h e
   subst e;split<;>omega
  ·cases a
 ·cases a
def Anv{w:World}{base c i d j e k:Nat}{f g h:Option Addr}{x:Nd}(o:Yh w base (.agg #[.slice f c i,.int .u64 (x.val.toNat:Int),.slice g d j,.slice h e k]) x)(l:c<=1000000)(m:d<=1000000)(n:e<=1000000)(b:UInt8):
 Calls prog 143 #[.agg #[.slice f c i,.int .u64 (x.val.toNat:Int),.slice g d j,.slice h e k],.int .u8 (b.toNat:Int)] w λa w'=>a=.returned (Yd x b)/\η w w':=by
 obtain⟨_,_,_,_,_,_,a,p,q,r⟩:=o;simp only[Value.agg.injEq]at a;simp at a;obtain⟨⟨rfl,rfl,rfl⟩,⟨rfl,rfl,rfl⟩,⟨rfl,rfl,rfl⟩⟩:=a;exact Afr _ _ _ _ _ _ _ _ _ x b w l m n (CV p).2 (CV q).2 (CV r).2
section
variable{len:Mode}{w w':World}{x d p L:Nat}{s:St}{F:Nat->Prop}
def Kw(bV:IU len w x d p L s F)(key:ByteArray)(dS:key.size<=1000):Calls prog 97 #[Az x,.string key] w (pV s key.data.toList w):=by
 have bO:=Aa bV
 have cl:=Aa (Afn key w O)
 have cz:=Aa (λ(am:World)(ao:η w am)=>ZC (bO.out.below ao))
 have c9:=Aa (λ(am:World)(ao:η w am)=>LY (bO.out.below ao))
 have dC:=bV.box.lt
 clear bV
 go_enter func97,ntmps97
 go_wp2_with fail
 refine cl.out.mono ?_
 rintro i dy⟨v,rfl,b5,b0⟩
 obtain⟨D,m,rfl,dk,dm⟩:=CS b5
 have ck:=Aa b5
 clear cl b5 dm
 go_wp2_with fail
 refine(cz.out dy b0).mono ?_
 rintro i a5⟨rfl,b1⟩
 have ct:=Aa (own_below ck.out b1)
 have b2:=τ b0 b1
 clear ck b0 b1 cz
 go_wp2_with fail
 obtain⟨aM,aR⟩:=ε (a5.alloc (.cells #[.slice none 0 0,.int .u64 0,.slice none 0 0,.slice none 0 0,.int .i64 0,.int .u8 0,.int .i64 72] 197))
 have bS:η a5 aM:=by rw [aR];exact(Below.refl _ _).alloc (Ad _) _
 have bw:CQ aM a5.heap.size 197 [.slice none 0 0,.int .u64 0,.slice none 0 0,.slice none 0 0,.int .i64 0,.int .u8 0,.int .i64 72]:=by rw [aR];exact heap_alloc_new _ _
 have cD:η w aM:=τ b2 bS
 have cC:=Q8.KR (own_below ct.out bS) (by rw [ZF];simp)
 rw [<-aR]
 have aa:(CG key.data.toList).length=2*key.size:=by rw [ZF];simp
 have q:=b2.size
 obtain⟨e,ca⟩:∃e,a5.heap.size=e:=⟨_,rfl⟩
 rw [ca]at bw q⊢
 have ch:Hid (Ags s L key.data.toList w e (.slice D (2*key.size) m) (.int .u64 ((s.ws 9).toNat:Int)) (.slice none 0 0) aM):=
  Aa ⟨2*key.size+1,D,m,CG key.data.toList,s.ws 9,0,72,[],_,_,_,_,_,by rw [aa],rfl,by simp [EY],O,O,by simp [aa],bw,Oz.nil _ _,by simp [Ba],cC,cD⟩
 clear aR bS bw cD cC ct aa dk b2 ca
 go_loopw [7,8,10](λu7 u8 u10 wr=>Ags s L key.data.toList w e u7 u8 u10 wr)(λu7 _ _ _=>lenOf u7)
 case atStart=>exact ch.out
 case round=>
  clear ch
  obtain⟨Y,D,m,f,b,j,l,h,da,db,dc,dd,dI,rfl,rfl,cL,cK,cF,aa,bW,co,cM,cN,cE⟩:=hrel
  obtain⟨Y,rfl⟩:∃dg,Y=dg+1:=⟨Y-1,O⟩
  have dU:=bW.lt
  have al:=Aa bW
  have bp:=Aa co
  have aG:=Aa cM
  have bx:=Aa cN
  have V:=Aa cL
  have a2:=Aa cE
  have N:=Aa (And.intro cK (And.intro cF aa))
  clear bW co cM cN cL cE cK cF aa
  by_cases aq:b=0
  ·have J:Hid (EY s key.data.toList=some (h,f)):=Aa (by rw [<-V.out,Et,if_pos aq])
   have t0:(((b.toNat:Nat):Int)==0)=true:=by subst aq;rfl
   clear V
   go_wp2_with fail
   refine bodyPost_ret (v:= .tuple #[u10,.slice D f.length m,.int .i64 0]) (by simp [results,results97,go_sem]) rfl ?_
   refine⟨a2.out,?_⟩
   rw [J.out]
   exact⟨_,D,m,rfl,bp.out,bx.out,N.out.2.1⟩
  ·have t0:(((b.toNat:Nat):Int)==0)=false:=by
    rw [beq_eq_false_iff_ne];intro i;apply aq
    exact UInt64.toNat_inj.1 (by have:b.toNat=0:=O
                                 rw [this];rfl)
   have f4:=al.out.frozen 4
   have ar:=al.out.cell 4
   simp only [AB,Ag]at ar
   have dr:IntKind.i64.wrap (b.toNat:Int)=Bg b:=rfl
   go_wp2_with fail
   have aE:=al.out.AZ 4 (Aw .i64 (Bg b))
   have b7:=CZ.AZ al.out 4 (Aw .i64 (Bg b))
   have cT:=Kept.AZ wr e 4 (Aw .i64 (Bg b))
   have bq:=a2.out.setCell (p:=Δ e 4) q (Aw .i64 (Bg b))
   have dq:w.heap.size<=wr.heap.size:=a2.out.size
   generalize wr.setCell (Δ e 4) (Aw .i64 (Bg b))=bR at*
   have cv:=Aa b7
   replace aE:CQ bR e 197 [da,db,dc,dd,.int .i64 (Bg b),.int .u8 (j.toNat:Int),.int .i64 l]:=aE
   have b6:w.heap.size<=bR.heap.size:=Bi dq b7.1
   clear f4 ar dr b7
   refine(c9.out bR bq b).mono ?_
   rintro i a6⟨Z,ab⟩
   have cw:=Aa (cv.out.trans (CZ.of_below Z))
   have cp:=Aa (cT.trans' (Kept.of_below Z))
   clear cT
   have g:=aE.ξ Z
   have b3:=bq.trans (Z.mono b6)
   have dV:w.heap.size<=a6.heap.size:=Bi b6 Z.size
   clear aE bq Z cv
   cases ac:FN s b with
   | none=>
     rw [ac]at ab
     dsimp only at ab
     subst ab
     have J:Hid (EY s key.data.toList=none):=Aa (by rw [<-V.out,Et,if_neg aq,ac])
     have f0:=g.frozen 0
     have f1:=g.frozen 1
     have f2:=g.frozen 2
     have f3:=g.frozen 3
     have bg:=g.cell 0
     have bh:=g.cell 1
     have bi:=g.cell 2
     have bj:=g.cell 3
     simp only [AB,Ag]at bg bh bi bj
     clear ac V
     go_wp2_with fail
     refine bodyPost_ret (v:= .tuple #[.slice none 0 0,.slice none 0 0,.int .i64 5]) (by simp [results,results97,go_sem]) rfl ?_
     refine⟨(((b3.setCell (p:=Φ e) q _).setCell (p:=Δ e 1) q _).setCell (p:=Δ e 2) q _).setCell (p:=Δ e 3) q _,?_⟩
     rw [J.out]
   | some a=>
     rw [ac]at ab
     dsimp only at ab
     obtain⟨v,rfl,n,o,u,A,y,B,rfl,cW,cX,cY⟩:=ab
     have cj:=Aa (show Yh a6 w.heap.size (.agg #[.slice n a.pre.length o,.int .u64 (a.val.toNat:Int),.slice u a.labels.length A,.slice y a.kids.length B]) a from Yh.mono ⟨n,o,u,A,y,B,rfl,cW,cX,cY⟩ b6)
     have br:=Aa ac
     clear ac cW cX cY
     have f0:=g.frozen 0
     have f1:=g.frozen 1
     have f2:=g.frozen 2
     have f3:=g.frozen 3
     have bg:=g.cell 0
     have bh:=g.cell 1
     have bi:=g.cell 2
     have bj:=g.cell 3
     have ar:=g.cell 4
     have c2:=g.cell 5
     have c3:=g.cell 6
     simp only [AB,Ag]at bg bh bi bj ar c2 c3
     obtain⟨c1,cQ,cR⟩:=bp.out
     have cf:=(((g.AZ 0 (Ac n a.pre.length o)).AZ 1 (Aw .u64 (a.val.toNat:Int))).AZ 2 (Ac u a.labels.length A)).AZ 3 (Ac y a.kids.length B)
     have bT:=(((b3.setCell (p:=Φ e) q (Ac n a.pre.length o)).setCell (p:=Δ e 1) q (Aw .u64 (a.val.toNat:Int))).setCell (p:=Δ e 2) q (Ac u a.labels.length A)).setCell (p:=Δ e 3) q (Ac y a.kids.length B)
     have cx:=cw.out.trans ((((CZ.AZ g 0 (Ac n a.pre.length o)).trans (CZ.AZ (g.AZ 0 _) 1 (Aw .u64 (a.val.toNat:Int)))).trans (CZ.AZ ((g.AZ 0 _).AZ 1 _) 2 (Ac u a.labels.length A))).trans (CZ.AZ (((g.AZ 0 _).AZ 1 _).AZ 2 _) 3 (Ac y a.kids.length B)))
     have cq:=cp.out.trans' ((((Kept.AZ _ e 0 (Ac n a.pre.length o)).trans' (Kept.AZ _ e 1 (Aw .u64 (a.val.toNat:Int)))).trans' (Kept.AZ _ e 2 (Ac u a.labels.length A))).trans' (Kept.AZ _ e 3 (Ac y a.kids.length B)))
     have bE:=Aa (Fg cQ cq (.inl aG.out))
     have bl:=Aa (((((CZ.AZ g 0 (Ac n a.pre.length o)).trans (CZ.AZ (g.AZ 0 _) 1 (Aw .u64 (a.val.toNat:Int)))).trans (CZ.AZ ((g.AZ 0 _).AZ 1 _) 2 (Ac u a.labels.length A))).trans (CZ.AZ (((g.AZ 0 _).AZ 1 _).AZ 2 _) 3 (Ac y a.kids.length B))).nd cj.out)
     have bA:=Aa cx
     have aL:=Aa cf
     have cb:=Aa bT
     have cm:=Aa (bA.out.pls c1 h cR)
     have cS:=bT.size
     have dl:h.length<=1000000:=by have:=N.out;simp at this;omega
     clear cx cq cf bT cQ cR
     go_wp2_with(at_builtin;refine E5 rfl (.tmp 42) (.tmp 44) 191 rfl Tryz.Agr ((((a6.setCell (Φ e) (Ac n a.pre.length o)).setCell (Δ e 1) (Aw .u64 (a.val.toNat:Int))).setCell (Δ e 2) (Ac u a.labels.length A)).setCell (Δ e 3) (Ac y a.kids.length B)) w.heap.size u10 h.length c1.flatten [Ac n a.pre.length o,Aw .u64 (a.val.toNat:Int),Ac u a.labels.length A,Ac y a.kids.length B,.int .i64 (Bg b),.int .u8 (j.toNat:Int),.int .i64 l] rfl bE.out rfl a6.heap.size 1 rfl (by simp [DF,P7]) rfl U (by simp [Value.oneCell']) dl U cS ?_;intro E K a7 cy cs bX cV;have bs:=(bX.2 e aL.out.lt aG.out).trans aL.out;obtain⟨a8,a9,ba,bb,bc,bd,be⟩:=EN bs)
     have a3:=CZ.kept bE.out bX
     have cr:Hid (CQ a7 e 197 [.slice n a.pre.length o,.int .u64 (a.val.toNat:Int),.slice u a.labels.length A,.slice y a.kids.length B,.int .i64 (Bg b),.int .u8 (j.toNat:Int),.int .i64 l]):=Aa bs
     have cn:=Aa (Oz.app cm.out (p:=⟨a,Bg b,j,l⟩) ⟨_,_,_,_,rfl,bl.out⟩ a3 cy)
     have bm:=Aa ((bA.out.trans a3).rs bx.out)
     have bo:=Aa (a3.nd bl.out)
     have b9:=Aa (cb.out.trans cs)
     have cc:Hid (e≠E):=Aa (λi=>by
      rcases cV with cB| cB
      ·exact aG.out (by rw [cB,i])
      ·have:=aL.out.lt;simp only[Δ,Φ]at this cB;omega)
     clear a3 bs cy cs bX cV bE cm bl bA aL cb bp bx al aG a2 cj cw cp g b3 f0 f1 f2 f3 bg bh bi bj ar c2 c3 cS
     obtain⟨dL,dM,de⟩:=Ha br.out
     obtain⟨c,a0⟩:=ε (common a.pre f)
     have dn:f.length<=4294967296:=by have:=N.out;simp at this;omega
     refine(LK n D a.pre.length f.length o m a.pre f a7 O dn (by obtain⟨_,_,_,_,_,_,i,dv,_,_⟩:=bo.out;simp only [Value.agg.injEq]at i;simp at i;obtain⟨⟨rfl,rfl⟩,_⟩:=i;exact(CV dv).2) bm.out.1).mono ?_
     rintro i C⟨rfl,cI⟩
     rw [<-a0]
     have af:=cI.below a7.heap.size
     have a4:CZ 197 a7 C:=CZ.of_below af
     have bt:=cr.out.ξ af
     have bL:Hid (Oz C w.heap.size (.slice (some (Φ E)) (h.length+1) K) (h++[⟨a,Bg b,j,l⟩])):=Aa (by
      obtain⟨I,G,H⟩:=cn.out
      exact⟨I,Fg G (Kept.of_below (r:=none) af) (.inl (by simp [Ba])),a4.pls _ _ H⟩)
     have aw:=Aa (a4.rs bm.out)
     have c4:=Aa (a4.nd bo.out)
     have bk:=Aa (τ b9.out af)
     have du:=Aa bt
     obtain⟨a8,a9,ba,bb,bc,bd,be⟩:=EN bt
     have av:Hid ((if c<a.pre.length\/c=f.length then some (h++[⟨a,Bg b,j,l⟩],f)else
      match OY a (f.getD c 0)with
      | none=>some (h++[⟨a,Bg b,j,l⟩],f)
      | some (a1,k)=>Et s Y a1 (f.drop (c+1)) (f.getD c 0) (Bg b+8*k) (h++[⟨a,Bg b,j,l⟩]))=EY s key.data.toList):=Aa (by
      rw [<-V.out,Et,if_neg aq,br.out,a0]
      rfl)
     have c8:=Aa a0
     clear cI af a4 bt cn bm bo b9 cr a0 V
     by_cases R:c<a.pre.length\/c=f.length
     ·have J:Hid (EY s key.data.toList=some (h++[⟨a,Bg b,j,l⟩],f)):=Aa (by rw [<-av.out,if_pos R])
      have cA:pV s key.data.toList w (.returned (.tuple #[.slice (some (Φ E)) (h.length+1) K,.slice D f.length m,.int .i64 0])) C:=by
       refine⟨bk.out,?_⟩
       rw [J.out]
       exact⟨_,D,m,rfl,bL.out,aw.out,N.out.2.1⟩
      have ci:=Aa cA
      clear cA J av
      by_cases S:c<a.pre.length
      ·have t1:decide ((c:Int)<(a.pre.length:Int))=true:=decide_eq_true O
       have c0:decide (c<a.pre.length)=true:=decide_eq_true S
       clear R S
       go_wp2_with fail
       refine bodyPost_ret (v:= .tuple #[.slice (some (Φ E)) (h.length+1) K,.slice D f.length m,.int .i64 0]) (by simp [results,results97,go_sem]) rfl ci.out
      ·have t1:decide ((c:Int)<(a.pre.length:Int))=false:=decide_eq_false O
       have c0:decide (c<a.pre.length)=false:=decide_eq_false S
       have t2:((c:Int)==(f.length:Int))=true:=by rw [beq_iff_eq];omega
       have dx:(c==f.length)=true:=by rw [beq_iff_eq];omega
       clear R S
       go_wp2_with fail
       refine bodyPost_ret (v:= .tuple #[.slice (some (Φ E)) (h.length+1) K,.slice D f.length m,.int .i64 0]) (by simp [results,results97,go_sem]) rfl ci.out
     ·have S:¬c<a.pre.length:=λi=>R (.inl i)
      have cP:c≠f.length:=λi=>R (.inr i)
      have b4:c<f.length:=by have:=FM a.pre f;rw [<-c8.out]at this;omega
      have ah:=Aa av.out
      rw [if_neg R]at ah
      have t1:decide ((c:Int)<(a.pre.length:Int))=false:=decide_eq_false O
      have c0:decide (c<a.pre.length)=false:=decide_eq_false S
      have t2:((c:Int)==(f.length:Int))=false:=ζ O
      have dx:(c==f.length)=false:=ζ cP
      obtain⟨X,ad,rfl,dj,cH⟩:=aw.out.1.2 O
      have cG:C.cell? (Δ X (ad+c))=some (.int .u8 ((f.getD c 0).toNat:Int)):=by
       rw [cH c b4,CB,Ae b4,List.getD_eq_getElem?_getD,Ae b4];rfl
      generalize f.getD c 0=t at*
      clear cH av R S cP
      have az:=Aa (λ(am:World)(ao:η C am)=>Anv ((CZ.of_below ao).nd c4.out) O O O t)
      have d1:(decide ((0:Int)<=(c:Int)))=true:=decide_eq_true O
      have d2:(decide ((c:Int)<(f.length:Int)))=true:=decide_eq_true O
      cases Q:OY a t with
      | none=>
        have bB:=Aa (Aco Q)
        rw [bB.out]at az
        have J:Hid (EY s key.data.toList=some (h++[⟨a,Bg b,j,l⟩],f)):=Aa (by rw [<-ah.out,Q])
        clear Q ah
        go_wp2_with fail
        go_region_with(go_at_call 143;go_loud(refine(az.out _ ((Dr.drew _).below _)).mono ?_;rintro i M⟨rfl,ap⟩))
        all_goals(have z:=((Dr.drew C).below C.heap.size).trans ap)
        all_goals(have T:CZ 197 C M:=CZ.of_below z)
        all_goals(have aH:Hid (Oz M w.heap.size (.slice (some (Φ E)) (h.length+1) K) (h++[⟨a,Bg b,j,l⟩])):=Aa (by
         obtain⟨I,G,H⟩:=bL.out
         exact⟨I,Fg G (Kept.of_below (r:=none) z) (.inl (by simp [Ba])),T.pls _ _ H⟩))
        all_goals(have aB:=Aa (T.rs aw.out))
        all_goals(have aD:=Aa (τ bk.out z))
        all_goals(clear z T ap)
        all_goals(go_wp2_with fail)
        all_goals(refine bodyPost_ret (v:= .tuple #[.slice (some (Φ E)) (h.length+1) K,.slice (some (Δ X ad)) f.length m,.int .i64 0]) (by simp [results,results97,go_sem]) rfl ?_)
        all_goals(refine⟨aD.out,?_⟩)
        all_goals(rw [J.out])
        all_goals(exact⟨_,_,m,rfl,aH.out,aB.out,N.out.2.1⟩)
      | some dt=>
        obtain⟨a1,k⟩:=dt
        have bB:=Aa (Acn Q)
        rw [bB.out]at az
        have dT:=xA Q de
        have c5:Hid (Et s Y a1 (f.drop (c+1)) t (Bg b+8*k) (h++[⟨a,Bg b,j,l⟩])=EY s key.data.toList):=Aa (by rw [<-ah.out,Q])
        have dW:IntKind.i64.wrap (8*(k:Int))=8*(k:Int):=wrap64 _ O O
        have dp:=Vr bO.out br.out
        have dX:IntKind.i64.wrap (Bg b+8*(k:Int))=Bg b+8*(k:Int):=wrap64 _ O O
        have d0:IntKind.i64.wrap ((c:Int)+1)=(c:Int)+1:=wrap64 _ O (by have:=N.out;simp at this;omega)
        clear dp
        clear Q ah
        go_wp2_with fail
        go_region_with(go_at_call 143;go_loud(refine(az.out _ ((Dr.drew _).below _)).mono ?_;rintro i M⟨rfl,ap⟩))
        all_goals(have z:=((Dr.drew C).below C.heap.size).trans ap)
        all_goals(have T:CZ 197 C M:=CZ.of_below z)
        all_goals(have aH:Hid (Oz M w.heap.size (.slice (some (Φ E)) (h.length+1) K) (h++[⟨a,Bg b,j,l⟩])):=Aa (by
         obtain⟨I,G,H⟩:=bL.out
         exact⟨I,Fg G (Kept.of_below (r:=none) z) (.inl (by simp [Ba])),T.pls _ _ H⟩))
        all_goals(have aB:=Aa (T.rs aw.out))
        all_goals(have aD:=Aa (τ bk.out z))
        all_goals(have P:=Aa (du.out.ξ z))
        all_goals(have c6:=(z.cell (p:=Δ X (ad+c)) dj).trans cG)
        all_goals(clear z T ap)
        all_goals(clear cG a8 a9 ba bb bc bd be)
        all_goals(obtain⟨a8,a9,ba,bb,bc,bd,be⟩:=EN P.out)
        all_goals(have f5:=P.out.frozen 5)
        all_goals(have f6:=P.out.frozen 6)
        all_goals(go_wp2_with fail)
        all_goals(go_region)
        all_goals(have cg:=(P.out.AZ 5 (Aw .u8 (t.toNat:Int))).AZ 6 (Aw .i64 (Bg b+8*(k:Int))))
        all_goals(have b8:=(CZ.AZ P.out 5 (Aw .u8 (t.toNat:Int))).trans (CZ.AZ (P.out.AZ 5 (Aw .u8 (t.toNat:Int))) 6 (Aw .i64 (Bg b+8*(k:Int)))))
        all_goals(have cU:=(Kept.AZ M e 5 (Aw .u8 (t.toNat:Int))).trans' (Kept.AZ _ e 6 (Aw .i64 (Bg b+8*(k:Int)))))
        all_goals(have cd:=(aD.out.setCell (p:=Δ e 5) q (Aw .u8 (t.toNat:Int))).setCell (p:=Δ e 6) q (Aw .i64 (Bg b+8*(k:Int))))
        all_goals(have cJ:=(Dr.drew ((M.setCell (Δ e 5) (Aw .u8 (t.toNat:Int))).setCell (Δ e 6) (Aw .i64 (Bg b+8*(k:Int))))).below w.heap.size)
        all_goals(obtain⟨an,W⟩:=ε (World.drew ((M.setCell (Δ e 5) (Aw .u8 (t.toNat:Int))).setCell (Δ e 6) (Aw .i64 (Bg b+8*(k:Int))))))
        all_goals(have bN:Hid (Oz an w.heap.size (.slice (some (Φ E)) (h.length+1) K) (h++[⟨a,Bg b,j,l⟩])):=Aa (by
         obtain⟨I,G,H⟩:=aH.out
         rw [W]
         exact⟨I,Fg G cU (.inl (by simp [Ba,cc.out])),(b8.trans (CZ.of_below ((Dr.drew _).below _))).pls _ _ H⟩))
        all_goals(have c7:Hid (Q8 an w.heap.size (some (Δ X ad)) f):=Aa (by rw [W];exact b8.rs aB.out))
        all_goals(have ce:Hid (η w an):=Aa (by rw [W];exact cd.trans cJ))
        all_goals(have dz:Hid (CQ an e 197 [.slice n a.pre.length o,.int .u64 (a.val.toNat:Int),.slice u a.labels.length A,.slice y a.kids.length B,.int .i64 (Bg b),.int .u8 (t.toNat:Int),.int .i64 (Bg b+8*(k:Int))]):=Aa (by rw [W];exact cg))
        all_goals(rw [<-W])
        all_goals(clear cg b8 cU cd cJ W P aH aB aD a8 a9 ba bb bc bd be f5 f6 c6)
        all_goals(go_wp2_with fail)
        all_goals(go_quiet(fail))
        all_goals(have⟨dO,dh,dR⟩:=N.out)
        all_goals(go_roundw)
        all_goals first
         | (case measure=>(simp [lenOf];omega))
         | (case rel=>
            refine⟨_,_,_,_,_,_,_,_,_,_,_,_,_,_,_,_,_,_,_,_,_,_,_,_,_,_,_,_,_,_,_,_,_,_,_,_,_,_,_,_,_,_,_,_,_,_,_,_,_,_,_,_,_,_,_,_,_,_,_,_,_,_,_,_,_,_,_,_,_,_,_,_,_,_,_,_,?_,rfl⟩
            refine⟨Y,(if m=c+1 then some (Δ X ad)else some (Δ X (ad+(c+1)))),m- (c+1),f.drop (c+1),a1,t,Bg b+8*(k:Int),h++[⟨a,Bg b,j,l⟩],_,_,_,_,_,(by rw [AU]),rfl,c5.out,(by rw [AU];omega),(by rw [AU];omega),(by rw [AY,AU];simp only [List.length_singleton];omega),dz.out,?_,(by simp [Ba,cc.out]),c7.out.cut (c+1) O dh,?_⟩
            ·first
             | (have ds:=bN.out;rw [AY];exact ds)
             | exact bN.out
             | (obtain⟨I,G,H⟩:=bN.out;exact⟨I,G,(CZ.of_below ((Dr.one an _).below _)).pls _ _ H⟩)
            ·first
             | exact ce.out
             | exact ce.out.trans ((Dr.one _ _).below _))
end
structure Acr(L:Nat)(pl:Pl):Prop where
 word:∃j:Nat,pl.word=((8*j:Nat):Int)/\j<8*L
 off:∃o:Nat,pl.off=((8*o:Nat):Int)/\o+8<=8*L
 right:Cf pl.nd=true
 kids:pl.nd.kids.length<=16
 labels:pl.nd.labels.length<=16
def Aag{L:Nat}{s:St}(j:dH L s.sh)(k:s.tk.length=s.sh.BQ){a:UInt64}{e:Nd}(b:FN s a=some e):
 Cf e=true/\∃i:Nat,Bg a=((8*i:Nat):Int)/\i+(if e.kids.length<=4 then 8 else 32)<=8*L:=by
 unfold FN at b;split at b
 ·cases b
 ·rename_i f;obtain⟨p,l,m,o,n,t⟩:=Vp f;split at b
  ·rename_i g;injection b with b
   subst b;have c:=g;unfold Ja at c;simp only[Bool.and_eq_true,decide_eq_true_eq]at c;have d:=Fb (Fh (wordsAt s.ws ((Bg a).toNat/8) (8*Bf (DC s (Bg a)))));rw[c.2.2]at d;have h:(wordsAt s.ws ((Bg a).toNat/8) (8*Bf (DC s (Bg a)))).length=8*Bf (DC s (Bg a)):=by simp[wordsAt]
   rw[h]at d;refine⟨c.2.1,(s.sh.data+1024*p+64*Bf (DC s (Bg a))*l)/8,?_⟩;rw[<-d];have q:=j.fits;have r:=j.data;rw[k]at m;clear d h c g f;generalize Bf (DC s (Bg a))=u at*;generalize Bg a=v at*;subst o;rcases n with rfl|rfl<;>constructor<;>omega
  ·cases b
def An4{c:Nd}{b:UInt8}{k:UInt64}{d:Nat}(a:OY c b=some (k,d)):d<(if c.kids.length<=4 then 8 else 32):=by
 unfold OY Jk at a;split at a
 ·rename_i o f;obtain⟨g,i,_⟩:=Le.1 f;split at a
  ·rename_i j;obtain⟨_,_,n,h,_⟩:=(Bv _).1 j;have m:b.toNat<16:=by
    have:=List.all_eq_true.1 h _ (List.getElem_mem g);simp only[beq_iff_eq]at i;unfold D6 at this;simp only[decide_eq_true_eq]at this;omega
   injection a with a
   injection a with l e
   subst e;split
   ·omega
   ·omega
  ·cases a
 ·cases a
def gB{L:Nat}{s:St}(u:dH L s.sh)(o:s.tk.length=s.sh.BQ):∀(f:Nat)(m:UInt64)(rest:List UInt8)(l:UInt8)(i:Int)(h e:List Pl)(g:List UInt8),
 (∃j:Nat,i=((8*j:Nat):Int)/\j<8*L)->(∀pl∈h,Acr L pl)->Et s f m rest l i h=some (e,g)->(∀pl∈e,Acr L pl)/\g.length<=rest.length
 |0,m,rest,l,i,h,e,g,r,k,a=>by
  rw[Et]at a;injection a with a
  injection a with b c
  subst b c;exact⟨k,Ad _⟩
 |f+1,m,rest,l,i,h,e,g,r,k,a=>by
  rw[Et]at a;split at a
  ·injection a with a
   injection a with b c
   subst b c;exact⟨k,Ad _⟩
  ·split at a
   ·cases a
   ·rename_i B q;obtain⟨x,t,p,y⟩:=Aag u o q;obtain⟨F,v,w⟩:=Ha q;have n:∀pl∈h++[⟨B,Bg m,l,i⟩],Acr L pl:=by
     intro pl d;rcases AL.1 d with d|d
     ·exact k pl d
     ·rw[BG]at d;subst d;exact⟨r,⟨t,p,by split at y<;>omega⟩,x,v,w⟩
    split at a
    ·injection a with a
     injection a with b c
     subst b c;exact⟨n,Ad _⟩
    ·split at a
     ·injection a with a
      injection a with b c
      subst b c;exact⟨n,Ad _⟩
     ·rename_i A C z;have G:=An4 z;obtain⟨D,E⟩:=gB u o f A _ _ _ _ e g ⟨t+C,by rw[p];omega,O⟩ n a;refine⟨D,?_⟩;rw[AU]at E;omega
def SQ{L:Nat}{s:St}(d:dH L s.sh)(e:1<L)(c:s.tk.length=s.sh.BQ){key:List UInt8}{b:List Pl}{rest:List UInt8}(a:EY s key=some (b,rest)):(∀pl∈b,Acr L pl)/\rest.length<=2*key.length:=by
 have:=gB d c _ _ _ _ _ _ _ _ ⟨9,rfl,O⟩ (by intro pl a;cases a) a;rw[ZF]at this;exact this
def RN:∀(a b:List UInt8),common a b=a.length->common a b=b.length->a=b:=by
 intro a b c d;induction a generalizing b with
 |nil=>cases b with
  |nil=>rfl
  |cons h t=>simp[common]at d
 |cons x t f=>cases b with
  |nil=>simp[common]at c
  |cons h g=>
   simp only[common]at c d;split at c
   ·rename_i e;rw[if_pos e]at d;simp only[BD]at c d;rw[f g O O]
    simp_all
   ·simp at c
def zv(k:Int):Value:=.int .i64 k
abbrev Yj(w:World)(x d p L:Nat)(q:Ms)(F:Nat->Prop):Prop:=IU q.pw.mode w x d p L q.s F
structure OC(w:World)(base jb x d p L:Nat)(j:Jm)(F:Nat->Prop)(v:Value):Prop where
 ix:Yj w x d p L j.s F
 box:CQ w jb 202 [Az x,v]
 row:w.ownsRow base 3 1 v j.made.length (j.made.map zv)
 fj:¬F jb
 bj:base<=jb
 bx:x<base
 bt:0<base/\1<base
 mj:v.ownBlock≠some jb
 mF:∀b,v.ownBlock=some b->¬F b
 mb:∀o∈j.made,-9223372036854775808<=o/\o<=9223372036854775807
def FZ(w:World)(base jb x d p L:Nat)(j:Jm)(G:Nat->Prop):Prop:=∃F v,OC w base jb x d p L j F v/\∀a,G a<->(F a\/a=jb\/v.ownBlock=some a)
section
variable{w w':World}{base jb x d p L:Nat}{j:Jm}{F G:Nat->Prop}{v:Value}
def OC.xj(a:OC w base jb x d p L j F v):x≠jb:=Ψ a.bj a.bx
def OC.mlt(e:OC w base jb x d p L j F v):∀b,v.ownBlock=some b->base<=b/\b<w.heap.size:=by
 intro b c;rcases e.row.2 with⟨a,_⟩|⟨k,h,i,a,f,g,_⟩
 ·subst a;simp[Ba]at c
 ·subst a;simp only[Ba,Option.some.injEq]at c;subst c;exact⟨f,(AA.1 g).1⟩
def OC.mx(a:OC w base jb x d p L j F v):v.ownBlock≠some x:=λb=>Ψ ((a.mlt x b).1) a.bx
def OC.below(a:OC w base jb x d p L j F v)(k:η w w'):OC w' base jb x d p L j F v:=
 ⟨a.ix.below k,a.box.ξ k,Fg a.row (Kept.of_below (r:=some jb) k) (.inl (λb=>a.mj b.symm)),a.fj,a.bj,a.bx,a.bt,a.mj,a.mF,a.mb⟩
def FZ.below(a:FZ w base jb x d p L j G)(k:η w w'):FZ w' base jb x d p L j G:=by
 obtain⟨F,v,a,b⟩:=a;exact⟨F,v,a.below k,b⟩
def FZ.lt(b:FZ w base jb x d p L j G):∀a,G a->a<w.heap.size:=by
 obtain⟨F,v,b,e⟩:=b;intro a f;rcases(e a).1 f with c|rfl|c
 ·exact b.ix.sys.lt a c
 ·exact b.box.lt
 ·exact(b.mlt a c).2
def OC.move(a:OC w base jb x d p L j F v)(h:∀b,G b<->(F b\/b=jb\/v.ownBlock=some b)){s':Ms}{e:Nat->Prop}(n:Ll w' d p L s' e)(m:AP F e w w'):
 ∃i,OC w' base jb x d p L {j with s:=s'} e v/\(∀b,i b<->(e b\/b=jb\/v.ownBlock=some b))/\AP G i w w':=by
 have o:=a.box.lt;refine⟨λb=>e b\/b=jb\/v.ownBlock=some b,⟨a.ix.move n m,a.box.touch m.touch a.fj,Ie a.row m.touch a.mF,λf=>(m.own _ f).elim a.fj (λk=>O),a.bj,a.bx,a.bt,a.mj,λb c f=>(m.own _ f).elim (a.mF b c) (λk=>Ω ((a.mlt b c).2)),a.mb⟩,λ_=>Iff.rfl,m.touch.mono (λb c=>(h b).2 (.inl c)),λb c=>?_⟩;rcases c with g|g
 ·exact(m.own b g).imp (λl=>(h b).2 (.inl l)) id
 ·exact .inl ((h b).2 (.inr g))
def OC.app(e:OC w base jb x d p L j F v)(k:∀b,G b<->(F b\/b=jb\/v.ownBlock=some b)){o:Int}(C: -9223372036854775808<=o/\o<=9223372036854775807){g c:Nat}{i:World}
 (E:i.ownsRow base 3 1 (.slice (some (Φ g)) (j.made.length+1) c) (j.made.length+1) (j.made.map zv++[zv o]))(l:Below base w i)(n:Kept w i v.ownBlock)(m:v.ownBlock=some g\/w.heap.size<=g):
 ∃r,OC (i.setCell (Δ jb 1) (.slice (some (Φ g)) (j.made.length+1) c)) base jb x d p L {j with made:=j.made++[o]} F (.slice (some (Φ g)) (j.made.length+1) c)/\
  (∀b,r b<->(F b\/b=jb\/(Ac (some (Φ g)) (j.made.length+1) c).ownBlock=some b))/\AP G r w (i.setCell (Δ jb 1) (.slice (some (Φ g)) (j.made.length+1) c)):=by
 have B:=e.box.lt;have J:=e.ix.box.lt;have u:g≠jb:=by
  rintro rfl;rcases m with a|a
  ·exact e.mj a
  ·omega
 have A:¬F g:=by
  intro t;rcases m with a|a
  ·exact e.mF g a t
  ·have:=e.ix.sys.lt g t;omega
 have t1:Touch (λb=>v.ownBlock=some b) w i:=⟨l.os,l.tape,l.output,n.1,λb h q=>n.2 b h (λa=>q a.symm)⟩;have t2:Touch (λb=>b=jb\/v.ownBlock=some b) w (i.setCell (Δ jb 1) (.slice (some (Φ g)) (j.made.length+1) c)):=(t1.mono (λb=>.inr)).setCell (p:=Δ jb 1) (.inl (.inl rfl)) _;have y:∀{b:Nat},b<base->¬(b=jb\/v.ownBlock=some b):=by
  intro b h a;rcases a with rfl|a
  ·have:=e.bj;omega
  ·have:=(e.mlt b a).1;omega
 have H:Ll (i.setCell (Δ jb 1) (.slice (some (Φ g)) (j.made.length+1) c)) d p L j.s F:=e.ix.sys.keep t2 (λb h q=>q.elim (λa=>e.fj (a▸h)) (λa=>e.mF b a h)) (y e.bt.1) (y e.bt.2);have z:CQ i jb 202 [Az x,v]:=(n.2 jb B (λa=>e.mj a.symm)).trans e.box;refine⟨λb=>F b\/b=jb\/(Ac (some (Φ g)) (j.made.length+1) c).ownBlock=some b,⟨⟨H,e.ix.box.touch t2 (λa=>a.elim e.xj e.mx),e.ix.out⟩,z.AZ 1 _,?_,e.fj,e.bj,e.bx,e.bt,by simp[Ba,u],?_,?_⟩,λ_=>Iff.rfl,?_⟩
 ·have:=Fg E (Kept.AZ i jb 1 (.slice (some (Φ g)) (j.made.length+1) c)) (.inl (by simp[Ba,Ne.symm u]));simpa using this
 ·intro b h;simp only[Ba,Option.some.injEq]at h;exact h▸A
 ·intro I D;rcases AL.1 D with f|f
  ·exact e.mb I f
  ·rw[BG]at f;exact f▸C
 ·refine⟨t2.mono (λb h=>(k b).2 (.inr h)),λb h=>?_⟩;rcases h with f|f|f
  ·exact .inl ((k b).2 (.inl f))
  ·exact .inl ((k b).2 (.inr (.inl f)))
  ·simp only[Ba,Option.some.injEq]at f;rcases m with a|a
   ·exact .inl ((k b).2 (.inr (.inr (f▸a))))
   ·exact .inr (f▸a)
def AP.out{a:Nat->Prop}(m:AP G a w w'){b:Nat}(f:b<w.heap.size)(c:¬G b):¬a b:=λd=>(m.own b d).elim c (λe=>O)
end
structure It where
 k:ByteArray
 v:UInt64
def Agw(a b:It):Bool:=Op.bytesLess a.k.toList b.k.toList
def X9:∀(a b:List UInt8),Op.bytesLess a b=false->Op.bytesLess b a=true\/a=b
 |[],[],_=>.inr rfl
 |[],_::_,c=>by simp[Op.bytesLess]at c
 |_::_,[],_=>.inl rfl
 |x::a,f::b,c=>by
  simp only[Op.bytesLess,Bool.or_eq_false_iff,decide_eq_false_iff_not,Bool.and_eq_false_iff,beq_eq_false_iff_ne]at c;obtain⟨g,h⟩:=c;simp only[Op.bytesLess,Bool.or_eq_true,decide_eq_true_eq,Bool.and_eq_true,beq_iff_eq,List.cons.injEq];by_cases e:x=f
  ·subst e;have i:=h.resolve_left (λc=>c rfl);rcases X9 a b i with d|d
   ·exact .inl (.inr ⟨rfl,d⟩)
   ·exact .inr ⟨rfl,d⟩
  ·refine .inl (.inl ?_);rw[UInt8.lt_iff_toNat_lt]at g⊢;have:x.toNat≠f.toNat:=λc=>e (UInt8.toNat_inj.1 c)
   omega
def EU:∀(a:List UInt8),Op.bytesLess a a=false
 |[]=>rfl
 |x::a=>by simp[Op.bytesLess,EU a]
def Nb:∀(a b c:List UInt8),Op.bytesLess a b=true->Op.bytesLess b c=true->Op.bytesLess a c=true
 |_,[],_,d,_=>by simp[Op.bytesLess]at d
 |_,_::_,[],_,d=>by simp[Op.bytesLess]at d
 |[],_::_,_::_,_,_=>rfl
 |x::a,f::b,g::c,d,e=>by
  simp only[Op.bytesLess,Bool.or_eq_true,decide_eq_true_eq,Bool.and_eq_true,beq_iff_eq]at d e⊢;simp only[UInt8.lt_iff_toNat_lt]at d e⊢;rcases d with d|⟨rfl,d⟩
  ·rcases e with e|⟨rfl,e⟩
   ·exact .inl O
   ·exact .inl d
  ·rcases e with e|⟨rfl,e⟩
   ·exact .inl e
   ·exact .inr ⟨rfl,Nb a b c d e⟩
def Up(l:List It):Prop:=l.Pairwise λa b=>Agw a b=true
structure Wr where
 key:ByteArray
 text:ByteArray
 gone:Bool
def Dx(x:Wr):Bool:=decide (x.key.size<=16)&&decide (x.text.size<=40)&&(!x.gone||decide (x.text.size=0))
def Gl(x:Wr)(key:ByteArray):Bool:=Op.bytesLess x.key.toList key.toList
def GX(s:List Wr)(key:ByteArray):Nat:=s.findIdx λx=> !Gl x key
def ny(s:List Wr)(key:ByteArray):Bool:=match s[GX s key]? with
 |some x=>x.key.toList==key.toList
 |none=>false
def VQ(s:List Wr):Prop:=s.Pairwise λa b=>Gl a b.key=true
def Ky(s:List Wr)(x:Wr):List Wr×Int:=
 if Dx x=false then(s,2)else if ny s x.key then(s.set (GX s x.key) x,0)else if 16<=s.length then(s,3)else
 (s.take (GX s x.key)++x::s.drop (GX s x.key),0)
def ZI(s:List Wr)(key:ByteArray):GX s key<=s.length:=List.findIdx_le_length
def pW{s:List Wr}{key:ByteArray}{i:Nat}(hi:i<s.length)(h1:Gl s[i] key=false)(h2:∀j(a:j<s.length),j<i->Gl s[j] key=true):GX s key=i/\ny s key=(s[i].key.toList==key.toList):=by
 have a:GX s key=i:=by
  unfold GX;rw[List.findIdx_eq hi];exact⟨by rw[h1];rfl,λj b=>by rw[h2 j O b];rfl⟩
 refine⟨a,?_⟩;unfold ny;rw[a,Ae hi]
def Agx{s:List Wr}{key:ByteArray}(h2:∀j(a:j<s.length),Gl s[j] key=true):GX s key=s.length/\ny s key=false:=by
 have a:GX s key=s.length:=by
  unfold GX;rw[List.findIdx_eq_length];intro x c;obtain⟨j,b,rfl⟩:=Cm c;rw[h2 j b];rfl
 refine⟨a,?_⟩;unfold ny;rw[a,List.getElem?_eq_none (Ad _)]
def Agy{s:List Wr}{key:ByteArray}(a:ny s key=true):GX s key<s.length:=by
 unfold ny at a;cases b:s[GX s key]? with
 |none=>rw[b]at a;cases a
 |some x=>exact(List.getElem?_eq_some_iff.1 b).1
def xC{s:List Wr}{key:ByteArray}(j:Nat)(b:j<s.length)(a:j<GX s key):Gl s[j] key=true:=by
 unfold GX at a;have:=List.not_of_lt_findIdx a;simpa using this
def Acs{s:List Wr}{key:ByteArray}(b:GX s key<s.length):Gl s[GX s key] key=false:=by
 have a:(!Gl s[GX s key] key)=true:=List.findIdx_getElem (xs:=s) (p:=λx=> !Gl x key) (w:=b);cases c:Gl s[GX s key] key with
 |false=>rfl
 |true=>rw[c]at a;cases a
def VQ.lt{s:List Wr}(a:VQ s){i j:Nat}(hi:i<s.length)(c:j<s.length)(b:i<j):Gl s[i] s[j].key=true:=by
 unfold VQ at a;exact Hz.1 a i j hi c b
def VQ.left{s:List Wr}(c:VQ s){key:ByteArray}{i:Nat}(hi:i<s.length)(h1:Gl s[i] key=true):∀j(a:j<s.length),j<i+1->Gl s[j] key=true:=λj a d=>by
 by_cases b:j=i
 ·subst b;exact h1
 ·exact Nb _ _ _ (c.lt a hi O) h1
def VQ.right{s:List Wr}(c:VQ s){key:ByteArray}{i:Nat}(hi:i<s.length)(h1:Gl s[i] key=false):∀j(a:j<s.length),i<=j->Gl s[j] key=false:=λj a e=>by
 by_cases b:j=i
 ·subst b;exact h1
 ·cases d:Gl s[j] key with
  |false=>rfl
  |true=>rw[show Gl s[i] key=true from Nb _ _ _ (c.lt hi a O) d]at h1;cases h1
def Aj9{s:List Wr}(a:VQ s)(x:Wr):VQ (Ky s x).1:=by
 unfold Ky;split
 ·exact a
 ·split
  ·rename_i d;have g:=Agy d;have k:s[GX s x.key].key.toList=x.key.toList:=by
    unfold ny at d;rw[Ae g]at d;exact eq_of_beq d
   generalize GX s x.key=c at g k;unfold VQ;rw[Hz];intro q j i b y;simp only[List.length_set]at i b;rw[KL,KL];have e:=a.lt i b y;split
   ·rename_i m;subst m;rw[if_neg O];unfold Gl at e⊢;rw[<-k];exact e
   ·split
    ·rename_i m u;subst u;unfold Gl at e⊢;rw[<-k];exact e
    ·exact e
  ·split
   ·exact a
   ·rename_i d C;have w:ny s x.key=false:=by simpa using d
    obtain⟨c,l⟩:∃c,GX s x.key=c:=⟨_,rfl⟩;have z:=ZI s x.key;have p:∀j(a:j<s.length),j<c->Gl s[j] x.key=true:=λj a b=>xC j a (l▸b)
    have A:∀j(a:j<s.length),c<=j->Op.bytesLess x.key.toList s[j].key.toList=true:=λj b D=>by
     have g:c<s.length:=O;have n:Gl s[c] x.key=false:=by
      have:=Acs (s:=s) (key:=x.key) O;simpa only[l]using this
     have o:(s[c].key.toList==x.key.toList)=false:=by
      have h:ny s x.key=_:=(pW g n p).2;rw[<-h];exact w
     have h:Op.bytesLess x.key.toList s[c].key.toList=true:=(X9 _ _ n).resolve_right (by rw[beq_eq_false_iff_ne]at o;exact o);by_cases t:j=c
     ·subst t;exact h
     ·exact Nb _ _ _ h (a.lt g b O)
    rw[l]at z⊢;refine List.pairwise_append.2 ⟨List.Pairwise.sublist (List.take_sublist _ _) a,List.pairwise_cons.2 ⟨λr f=>?_,List.Pairwise.sublist (List.drop_sublist _ _) a⟩,λB v r f=>?_⟩
    ·obtain⟨j,b,rfl⟩:=Cm f;simp only[AU]at b;rw[XY];exact A _ O O
    ·obtain⟨q,i,rfl⟩:=Cm v;simp only[Em]at i;rw[List.getElem_take];rcases Ea.1 f with rfl|f
     ·exact p q O O
     ·obtain⟨j,b,rfl⟩:=Cm f;simp only[AU]at b;rw[XY];exact a.lt O O O
def Agz(s:List Wr)(x:Wr):(Ky s x).1.length<=max s.length 16:=by
 unfold Ky;split
 ·simp;omega
 ·split
  ·simp;omega
  ·split
   ·simp;omega
   ·have:=ZI s x.key;simp only[AY,Em,BD,AU];omega
def xE{s:List Wr}(c:∀b∈s,Dx b=true)(x:Wr):∀b∈(Ky s x).1,Dx b=true:=by
 unfold Ky;split
 ·exact c
 ·rename_i f;have e:Dx x=true:=by simpa using f
  split
  ·intro b d;rcases List.mem_or_eq_of_mem_set d with a|a
   ·exact c b a
   ·rw[a];exact e
  ·split
   ·exact c
   ·intro b d;rcases AL.1 d with a|a
    ·exact c b (List.mem_of_mem_take a)
    ·rcases Ea.1 a with a|a
     ·rw[a];exact e
     ·exact c b (List.mem_of_mem_drop a)
def rcV(r:Rc):Value:=.agg #[.int .u64 (r.stamp.toNat:Int),.int .u64 (r.next.toNat:Int),.bool r.gone,.string r.text]
def ZJ(s:ByteArray):(s.toList==[])=decide (s.size=0):=by
 rw[ByteArray.toList_eq];have a:s.size=s.data.toList.length:=rfl;cases b:s.data.toList with
 |nil=>rw[a,b];rfl
 |cons c d=>rw[a,b];rfl
def Ag0(r:Rc)(w:World)(u:r.text.size<=4294967296):Calls prog 154 #[rcV r] w λm w'=>m=.returned (.bool (DN r))/\η w w':=by
 obtain⟨b,f,g,a⟩:=r;simp only[rcV];obtain⟨s,j,k,h⟩:=Fz w 94 [.int .u64 (b.toNat:Int),.int .u64 (f.toNat:Int),.bool g,.string a];obtain⟨n,o,p,q,_,_,_,_⟩:=CO h;have e:=Aa k;rw[j]at n o p q e;have i:=ZJ a;have l:=Aa i;clear h k j i;by_cases d:b.toNat=0
 ·have t1:((b.toNat:Int)==0)=true:=by rw[d];rfl
  have c:Hid (DN ⟨b,f,g,a⟩=false):=Aa (by simp[DN,d]);clear d;go_enter func154,ntmps154
  go_wp2_with fail
  go_ret;exact⟨by rw[c.out];rfl,e.out⟩
 ·have t1:((b.toNat:Int)==0)=false:=ζ O;have u1:(b.toNat==0)=false:=ζ d;by_cases t:40<a.size
  ·have t2:decide ((40:Int)<(a.size:Int))=true:=decide_eq_true O;have c:Hid (DN ⟨b,f,g,a⟩=false):=Aa (by simp[DN,u1];omega);clear d u1;go_enter func154,ntmps154
   go_wp2_with fail
   go_ret;exact⟨by rw[c.out];rfl,e.out⟩
  ·have t2:decide ((40:Int)<(a.size:Int))=false:=decide_eq_false O;cases g with
   |false=>
    have c:Hid (DN ⟨b,f,false,a⟩=true):=Aa (by simp[DN,u1];omega);clear d u1;go_enter func154,ntmps154
    go_wp2_with fail
    go_ret;exact⟨by rw[c.out];rfl,e.out⟩
   |true=>
    have c:Hid (DN ⟨b,f,true,a⟩=(a.toList==[])):=Aa (by rw[l.out];simp[DN,u1];omega);clear d u1;go_enter func154,ntmps154;cases t4:(a.toList==[])
    all_goals(go_wp2_with fail)
    all_goals(go_ret)
    all_goals(exact⟨by rw[c.out,t4];rfl,e.out⟩)
def Aka:∀a:Fin 41,bits BinOp.or .u64 3 ((a.val:Int)*65536)=((Iz a.val false:Nat):Int):=by decide+kernel
def Ag1:bits BinOp.or .u64 (bits BinOp.or .u64 3 (((0:Nat):Int)*65536)) 256=((Iz 0 true:Nat):Int):=by decide+kernel
def Akb(o b j:Nat)(c:o<256^j)(f:b<256)(g:j<8):bits .or .u64 (o:Int) (IntKind.u64.wrap (IntKind.u64.wrap (b:Int)*2^(j*8)))=((o+b*256^j:Nat):Int):=by
 have a:=zV o b j f g;have d:(o:Int)%256^j=(o:Int):=by
  have e:(o:Int)%256^j=((o%256^j:Nat):Int):=by rw[Int.natCast_emod,Int.natCast_pow];rfl
  rw[e,Gm c]
 rw[d,Gm c,Nat.mul_comm 8 j]at a;exact a
def ND(r:Rc)(k:Nat):List Value:=([Aj (Iz r.text.size r.gone),r.stamp,r.next]++textW (r.text.data.toList.take k)).map wv
def xG(r:Rc)(k:Nat)(e:k<r.text.size)(v:Nat)(d:v=(Lr (r.text.data.toList.take k) (k/8)).toNat+r.text[k].toNat*256^(k%8)):(ND r k).set (3+k/8) (.int .u64 (v:Int))=ND r (k+1):=by
 have c:k<r.text.data.toList.length:=e;have a:=YO r.text.data.toList k c;have b:r.text.data.toList[k]=r.text[k]:=rfl;rw[b,<-d]at a;unfold ND;rw[<-vJ r.text.data.toList k c (Lr (r.text.data.toList.take (k+1)) (k/8)) (by rw[b,<-d];exact a),<-a];rw[show Aw IntKind.u64 ((Lr (r.text.data.toList.take (k+1)) (k/8)).toNat:Int)=wv (Lr (r.text.data.toList.take (k+1)) (k/8))from rfl,<-List.map_set,List.set_append_right _ _ Θ];congr 3;simp
def xH(r:Rc)(w:World)(e:Ending)(w':World):Prop:=
 η w w'/\if DN r=true then∃a,e=.returned (.tuple #[.slice (some (Φ a)) 8 8,.bool true])/\w'.ownsRow w.heap.size 43 1 (.slice (some (Φ a)) 8 8) 8 ((CW r).map wv)
  else e=.returned (.tuple #[.slice none 0 0,.bool false])
def gG(r:Rc)(w:World)(bs:r.text.size<=4294967296):Calls prog 113 #[rcV r] w (xH r w):=by
 obtain⟨d,aw,a7,ac⟩:=Fz w 94 [.int .u64 (r.stamp.toNat:Int),.int .u64 (r.next.toNat:Int),.bool r.gone,.string r.text];obtain⟨bc,bd,be,bg,_,_,_,_⟩:=CO ac;have aM:=Aa a7;have bj:=Aa ac;have m:=Aa (Ag0 r d bs);unfold rcV at m⊢;have aR:=Aa aw;rw[aw]at bc bd be bg;clear ac a7 aw;have aE:∀d:World,(Instr.makeSlice 109 (.int .i64 8) (.int .i64 8)).run prog d=.ok (.slice (some (Φ d.heap.size)) 8 8) (d.alloc (.cells (madeCells (Aw .u64 0).cells (8*1)) 43)):=λd=>by
  obtain⟨bx,bq,aa,bt,bw⟩:=info_parts Tryz.oq;have:=run_make (P:=prog) (w:=d) 109 43 bx (.int .u64 0) underlying109 bq aa .i64 .i64 8 8 O O (by rw[bw];omega) O;rw[bt]at this;simpa using this
 have aG:(madeCells (Aw .u64 0).cells (8*1)).toList=(List.replicate 8 (0:UInt64)).map wv:=LC 8;obtain⟨ab,bb⟩:∃ab,madeCells (Aw .u64 0).cells (8*1)=ab:=⟨_,rfl⟩;rw[bb]at aE aG;have al:=Aa aG;clear bb aG;cases s:DN r with
 |false=>
  have J:=Aa s;rw[s]at m;clear s;go_enter func113,ntmps113
  go_wp2_with fail
  rw[<-aR.out];refine m.out.mono ?_;rintro g f⟨rfl,E⟩;have i:=Aa (τ aM.out E);clear m E
  go_wp2_with fail
  go_ret2;refine⟨i.out,?_⟩;rw[if_neg (by rw[J.out];exact Bool.false_ne_true)];rfl
 |true=>
  have J:=Aa s;rw[s]at m;have a6:=((KD r).1 s).2.1;clear s;go_enter func113,ntmps113
  go_wp2_with fail
  rw[<-aR.out];refine m.out.mono ?_;rintro g f⟨rfl,E⟩;have i:=Aa (τ aM.out E);have ad:=bj.out.ξ E;obtain⟨bW,bX,b0,b1,_,_,_,_⟩:=CO ad;have U:=Aa ad;clear m E ad bc bd be bg;obtain⟨e,N⟩:=ε (f.alloc (.cells ab 43));have ba:=aE f;rw[<-N]at ba;obtain⟨a,R⟩:=ε f.heap.size;have bR:=U.out.lt;have u:w.heap.size≠a:=O;have y:CQ e a 43 [.int .u64 0,.int .u64 0,.int .u64 0,.int .u64 0,.int .u64 0,.int .u64 0,.int .u64 0,.int .u64 0]:=by
   have g:[Aw .u64 0,.int .u64 0,.int .u64 0,.int .u64 0,.int .u64 0,.int .u64 0,.int .u64 0,.int .u64 0]=ab.toList:=by rw[al.out];rfl
   rw[g];unfold CQ;rw[N,R,Array.toArray_toList];exact heap_alloc_new _ _
  have A:CQ e w.heap.size 94 _:=(N▸χ _ _ U.out.lt:e.heap[w.heap.size]?=f.heap[w.heap.size]?).trans U.out;have Z:Below a f e:=by rw[N,R];exact(Below.refl _ _).alloc (Ad _) _
  have I:=Aa R;rw[<-R]at ba;have a0:Hid ((e.heap.size:Nat)=e.heap.size):=Aa rfl;clear N R aE;have a5:∀(d:World)(xs:List Value),CQ d a 43 xs->∀b,b<xs.length->(∃v,d.cell? (Δ a b)=some v)/\d.frozen? (Δ a b)=false:=λd xs c b aB=>⟨⟨_,c.has aB⟩,c.frozen b⟩
  have j:=Aa a5;clear a5;obtain⟨V,D⟩:=ε (Aw .u64 (bits BinOp.or .u64 3 ((r.text.size:Int)*65536)));cases t:r.gone with
  |false=>
   have aH:=Aa t;have h:=y.AZ 0 V;have k:=A.far u 0 V;have l:=h.AZ 1 (.int .u64 (r.stamp.toNat:Int));have n:=k.far u 1 (.int .u64 (r.stamp.toNat:Int));have z:=l.AZ 2 (.int .u64 (r.next.toNat:Int));have o:=n.far u 2 (.int .u64 (r.next.toNat:Int));have a3:=Aa z;have bk:=Aa o;obtain⟨⟨bA,aq⟩,f2⟩:=j.out _ _ y 0 Θ;obtain⟨⟨bT,B⟩,f3⟩:=j.out _ _ h 1 Θ;obtain⟨⟨bB,C⟩,f4⟩:=j.out _ _ l 2 Θ;have L:=A.cell 3;have q:=k.cell 2;have an:=k.cell 0;have ao:=n.cell 1;have ap:=o.cell 3;simp only[Ag,AB,t]at L q an ao ap;rw[D]at q an ao ap B f3 C f4;clear y A h k l n z o t;have ah:Hid (CQ ((((e.setCell (Φ a) (Aw .u64 (bits BinOp.or .u64 3 ((r.text.size:Int)*65536)))).setCell (Δ a 1) (.int .u64 (r.stamp.toNat:Int))).setCell (Δ a 2) (.int .u64 (r.next.toNat:Int)))) a 43 (ND r 0)):=Aa (by
    have c:=a3.out;rw[D]at c;unfold ND;rw[aH.out,Aja,YP];have g:bits BinOp.or .u64 3 ((r.text.size:Int)*65536)=((Iz r.text.size false:Nat):Int):=Aka ⟨r.text.size,O⟩;have av:=Ql a6 false;simp only[Ap,Au,g]at c;simp only[Cj,EX,Ci,Gv,wv,g,av,show(((0:UInt64).toNat:Nat):Int)=0 from rfl];exact c)
   have af:Hid (Below a f ((((e.setCell (Φ a) (Aw .u64 (bits BinOp.or .u64 3 ((r.text.size:Int)*65536)))).setCell (Δ a 1) (.int .u64 (r.stamp.toNat:Int))).setCell (Δ a 2) (.int .u64 (r.next.toNat:Int))))):=Aa (((Z.setCell (p:=Φ a) (Ad _) _).setCell (p:=Δ a 1) (Ad _) _).setCell (p:=Δ a 2) (Ad _) _);clear D a3 bk j a0 al Z
   go_wp2_with fail
   clear L q an ao ap aq f2 B f3 C f4;generalize((((e.setCell (Φ a) (Aw .u64 (bits BinOp.or .u64 3 ((r.text.size:Int)*65536)))).setCell (Δ a 1) (.int .u64 (r.stamp.toNat:Int))).setCell (Δ a 2) (.int .u64 (r.next.toNat:Int))))=bo at*;generalize bits BinOp.or .u64 3 ((r.text.size:Int)*65536)=bp at*
   go_loopw [36](λx wr=>∃b:Nat,b<=r.text.size/\x=.int .i64 (b:Nat)/\CQ wr a 43 (ND r b)/\Below a f wr)(λx _=>r.text.size-(intOf x).toNat)
   case atStart=>exact⟨0,Nat.zero_le _,rfl,ah.out,af.out⟩
   case round=>
    obtain⟨b,aB,rfl,T,Q⟩:=hrel;have G:=Aa T;have K:=Aa Q;clear T Q;by_cases br:b<r.text.size
    ·have a8:=G.out.cell (3+b/8);have bN:=G.out.frozen (3+b/8);have a9:(ND r b)[3+b/8]?=some (.int .u64 ((Lr (r.text.data.toList.take b) (b/8)).toNat:Int)):=by
      unfold ND;rw[CB,List.getElem?_append_right Θ,show 3+b/8- [Aj (Iz r.text.size r.gone),r.stamp,r.next].length=b/8 by simp,textW,CB,List.getElem?_range O];rfl
     rw[a9]at a8;have bS:wr.cell? (Δ w.heap.size 3)=some (.string r.text):=by
      have:=(U.out.below K.out (by have:=I.out;omega:w.heap.size<a)).cell 3;simpa using this
     have bO:b/8<=4:=O;obtain⟨F,S⟩:∃F,Lr (r.text.data.toList.take b) (b/8)=F:=⟨_,rfl⟩;have bE:=Aa S;rw[S]at a8;have bh:=Aa (Akb F.toNat r.text[b].toNat (b%8) (by rw[<-S];exact vI _ _) (r.text[b]).toNat_lt O);have bi:Hid (CQ ((wr.setCell (Δ a (3+b/8)) (.int .u64 ((F.toNat+r.text[b].toNat*256^(b%8):Nat):Int))).drew) a 43 (ND r (b+1))):=Aa (by
      have c:=(G.out.AZ (3+b/8) (.int .u64 ((F.toNat+r.text[b].toNat*256^(b%8):Nat):Int))).drew;rw[xG r b br _ (by rw[S])]at c;exact c)
     have bm:Hid (Below a f ((wr.setCell (Δ a (3+b/8)) (.int .u64 ((F.toNat+r.text[b].toNat*256^(b%8):Nat):Int))).drew)):=Aa ((K.out.setCell (p:=Δ a (3+b/8)) (Ad _) _).drew);clear a9 S
     go_wp2_with fail
     go_region;rw[bh.out]
     go_wp2_with fail
     go_roundw
     case rel=>exact⟨b+1,O,by go_num,bi.out,bm.out⟩
     case measure=>simp[intOf];omega
    ·have aD:b=r.text.size:=O;subst aD;have H:Hid (ND r r.text.size=(CW r).map wv):=Aa (by
      unfold ND CW;rw[EP (show r.text.data.toList.length<=r.text.size from Ad _)])
     go_wp2_with fail
     go_ret2;refine⟨i.out.trans (K.out.mono (Ψ I.out i.out.size)),?_⟩;rw[if_pos J.out];have M:=G.out.own (B:=w.heap.size) (Ψ I.out i.out.size) (by rw[H.out,BX,I4];decide);rw[H.out,BX,I4]at M;exact⟨a,rfl,M⟩
  |true=>
   have aH:=Aa t;have aa:r.text.size=0:=((KD r).1 J.out).2.2 t;have a1:=Aa aa;clear aa;obtain⟨a4,az⟩:=ε (Aw .u64 (bits BinOp.or .u64 (bits BinOp.or .u64 3 ((r.text.size:Int)*65536)) 256));have h:=y.AZ 0 V;have k:=A.far u 0 V;have l:=h.AZ 0 a4;have n:=k.far u 0 a4;have z:=l.AZ 1 (.int .u64 (r.stamp.toNat:Int));have o:=n.far u 1 (.int .u64 (r.stamp.toNat:Int));have aL:=z.AZ 2 (.int .u64 (r.next.toNat:Int));have am:=o.far u 2 (.int .u64 (r.next.toNat:Int));have a2:=Aa aL;have bl:=Aa am;obtain⟨⟨bA,aq⟩,f2⟩:=j.out _ _ y 0 Θ;have B:=h.cell 0;have f3:=h.frozen 0;obtain⟨⟨bB,C⟩,f4⟩:=j.out _ _ l 1 Θ;obtain⟨⟨bV,ar⟩,f5⟩:=j.out _ _ z 2 Θ;have L:=A.cell 3;have q:=k.cell 2;have W:=n.cell 0;have X:=o.cell 1;have Y:=am.cell 3;simp only[Ag,AB,Ap,t]at L q W X Y B;rw[D]at q B f3 W C f4 X ar f5 Y;rw[az]at W C f4 X ar f5 Y;clear y A h k l n z o aL am t;have ah:Hid (CQ (((((e.setCell (Φ a) (Aw .u64 (bits BinOp.or .u64 3 ((r.text.size:Int)*65536)))).setCell (Φ a) (Aw .u64 (bits BinOp.or .u64 (bits BinOp.or .u64 3 ((r.text.size:Int)*65536)) 256))).setCell (Δ a 1) (.int .u64 (r.stamp.toNat:Int))).setCell (Δ a 2) (.int .u64 (r.next.toNat:Int)))) a 43 (ND r 0)):=Aa (by
    have c:=a2.out;rw[D,az]at c;unfold ND;rw[aH.out,Aja,YP];have g:bits BinOp.or .u64 (bits BinOp.or .u64 3 ((r.text.size:Int)*65536)) 256=((Iz r.text.size true:Nat):Int):=by rw[a1.out];exact Ag1
    have av:=Ql a6 true;simp only[Ap,Au,g]at c;simp only[Cj,EX,Ci,Gv,wv,g,av,show(((0:UInt64).toNat:Nat):Int)=0 from rfl];exact c)
   have af:Hid (Below a f (((((e.setCell (Φ a) (Aw .u64 (bits BinOp.or .u64 3 ((r.text.size:Int)*65536)))).setCell (Φ a) (Aw .u64 (bits BinOp.or .u64 (bits BinOp.or .u64 3 ((r.text.size:Int)*65536)) 256))).setCell (Δ a 1) (.int .u64 (r.stamp.toNat:Int))).setCell (Δ a 2) (.int .u64 (r.next.toNat:Int))))):=Aa ((((Z.setCell (p:=Φ a) (Ad _) _).setCell (p:=Φ a) (Ad _) _).setCell (p:=Δ a 1) (Ad _) _).setCell (p:=Δ a 2) (Ad _) _);clear D az a2 bl j a0 al Z
   go_wp2_with fail
   clear L q W X Y aq f2 B f3 C f4 ar f5;generalize(((((e.setCell (Φ a) (Aw .u64 (bits BinOp.or .u64 3 ((r.text.size:Int)*65536)))).setCell (Φ a) (Aw .u64 (bits BinOp.or .u64 (bits BinOp.or .u64 3 ((r.text.size:Int)*65536)) 256))).setCell (Δ a 1) (.int .u64 (r.stamp.toNat:Int))).setCell (Δ a 2) (.int .u64 (r.next.toNat:Int))))=bo at*;generalize bits BinOp.or .u64 (bits BinOp.or .u64 3 ((r.text.size:Int)*65536)) 256=bL at*;generalize bits BinOp.or .u64 3 ((r.text.size:Int)*65536)=bp at*
   go_loopw [36](λx wr=>∃b:Nat,b<=r.text.size/\x=.int .i64 (b:Nat)/\CQ wr a 43 (ND r b)/\Below a f wr)(λx _=>r.text.size-(intOf x).toNat)
   case atStart=>exact⟨0,Nat.zero_le _,rfl,ah.out,af.out⟩
   case round=>
    obtain⟨b,aB,rfl,T,Q⟩:=hrel;have G:=Aa T;have K:=Aa Q;clear T Q;have aD:b=r.text.size:=Ω a1.out;subst aD;have H:Hid (ND r r.text.size=(CW r).map wv):=Aa (by
     unfold ND CW;rw[EP (show r.text.data.toList.length<=r.text.size from Ad _)])
    go_wp2_with fail
    go_ret2;refine⟨i.out.trans (K.out.mono (Ψ I.out i.out.size)),?_⟩;rw[if_pos J.out];have M:=G.out.own (B:=w.heap.size) (Ψ I.out i.out.size) (by rw[H.out,BX,I4];decide);rw[H.out,BX,I4]at M;exact⟨a,rfl,M⟩
def Ag2(a b:ByteArray):(a==b)=decide (a=b):=by
 cases a with|mk x=>cases b with|mk c=>
 have d:((⟨x⟩:ByteArray)==⟨c⟩)=(x==c):=rfl;rw[d,Bool.eq_iff_iff,beq_iff_eq,decide_eq_true_eq,ByteArray.mk.injEq]
section
variable{P:Program}{t kt et:TypeId}
def WB(a:P.underlying kt=some .string)(b:Bool)(n:Nat)(k:ByteArray)(w:World):(Instr.checkKey b (n+1) kt (.string k)).run P w=.ok () w:=by
 simp[Instr.checkKey,run_underlying a,Result.andThen]
end
def WC:Nat->List (ByteArray×Value)->List MapEntry
 |_,[]=>[]
 |a,(b,v)::t=>{key:=.string b,val:=v,born:=a}::WC (a+1) t
def Aah(o:ByteArray)(v:Value):∀(l:List (ByteArray×Value))(i:Nat),WC i (l++[(o,v)])=WC i l++[{key:=.string o,val:=v,born:=i+l.length}]
 |[],i=>rfl
 |(a,b)::t,i=>by
  simp only[Cj,WC,Aah o v t (i+1),BD];rw[show i+1+t.length=i+(t.length+1)by omega]
def gI(k:ByteArray):∀(l:List (ByteArray×Value))(i n:Nat),(∀p∈l,p.1≠k)->Instr.findNow .string (.string k) (WC i l) n=some none
 |[],_,_,_=>rfl
 |(a,c)::t,i,n,b=>by
  have e:(k==a)=false:=by rw[Ag2];exact decide_eq_false (λd=>b (a,c) (List.mem_cons_self ..) d.symm)
  simp only[WC,Instr.findNow,Instr.sameNow,e];exact gI k t (i+1) (n+1) (λp f=>b p (List.mem_cons_of_mem _ f))
def TQ(w:World)(a:Nat)(l:List (ByteArray×Value)):Prop:=w.heap[a]?=some (.map (WC 0 l).toArray l.length)
def TQ.lt{w:World}{a:Nat}{l:List (ByteArray×Value)}(b:TQ w a l):a<w.heap.size:=(AA.1 b).1
def TQ.below{w w':World}{b:Nat}{l:List (ByteArray×Value)}(a:TQ w b l)(k:η w w'):TQ w' b l:=(k.block _ a.lt).trans a
section
variable{P:Program}{t kt et:TypeId}
def Acu(n:P.underlying t=some (.map kt et))(d:P.underlying kt=some .string)(a:World)(b:Nat)(l:List (ByteArray×Value))(k:ByteArray)(v:Value)(c:TQ a b l)(m:∀p∈l,p.1≠k):
 (Instr.mapUpdate t (.map (some b)) (.string k) v).run P a=.ok () (EF a b (WC 0 (l++[(k,v)])).toArray (l++[(k,v)]).length):=by
 have e:=run_underlying (P:=P) n;have f:=run_underlying (P:=P) d;have g:=λw=>WB (P:=P) d false 9999 k w
 have h:=Oo (P:=P) c;have i:=λo=>Ul (P:=P) o c
 have j:=gI k l 0 0 m;rw[Aah];simp[Instr.mapUpdate,e,f,g,h,i,Instr.findKey,j,EF,Result.andThen]
end
