import Derived.Sort.OwnSortedInts
import Derived.Test.YtekhjimghoibfaaGreatDoorI27
set_option linter.defProp false
set_option maxHeartbeats 32000000
set_option maxRecDepth 100000
open Nat renaming add_assoc->SC,le_refl->Ad,mul_one->Jg,zero_le->BB,lt_or_ge->Ir
open List renaming mem_cons_self->BA,map_append->Dc,length_mergeSort->uG,mem_map->BM,getElem?_eq_some_iff->C9,length_append->AY,length_map->BX,length_take->Em,take_length->Ny,getElem?_eq_getElem->Ae,getElem?_map->CB,replicate->BC,getElem_of_mem->Cm,any_eq_false->Qb,any_eq_true->QV,getElem_mem->BH,getElem_map->KN,pairwise_iff_getElem->Hz,mem_append->AL,mem_singleton->BG
open Array renaming getElem?_eq_some_iff->AA
open Go.Lib renaming hid->Aa
open Option renaming map_some->DJ
open Int renaming ofNat->BZ
namespace Go.Proofs.YtekhjimghoibfaaGreatDoor
open Go.Proofs.Tryz
section
open Go.RowKit
def mf:∀(l:List (ByteArray×Value))(i:Nat){e:MapEntry},e∈WC i l->∃a,∃h:a<l.length,e={key:=.string l[a].1,val:=l[a].2,born:=i+a}
 |(d,f)::c,i,e,h=>by
  rcases List.mem_cons.1 h with rfl|h
  ·exact⟨0,by simp,rfl⟩
  ·obtain⟨a,b,rfl⟩:=mf c (i+1) h;exact⟨a+1,by simpa using b,by simp only[List.getElem_cons_succ,SC,Nat.add_comm 1 a]⟩
def Aba:∀(l:List (ByteArray×Value))(i a:Nat)(h:a<l.length),({key:=.string l[a].1,val:=l[a].2,born:=i+a}:MapEntry)∈WC i l
 |(c,d)::b,i,0,h=>BA ..
 |(c,d)::b,i,a+1,h=>by
  have:=Aba b (i+1) a (by simpa using h);rw[show i+1+a=i+(a+1)by omega]at this;exact List.mem_cons_of_mem _ this
def tV:∀(l:List (ByteArray×Value))(i:Nat),(WC i l).map (·.born)=List.range' i l.length
 |[],_=>rfl
 |(b,c)::a,i=>by simp only[WC,List.map_cons,tV a (i+1),List.length_cons,List.range'_succ]
def Aem(l:List (ByteArray×Value)):((WC 0 l).map (·.born)).Nodup:=by rw[tV];exact List.nodup_range'
def itO(a n:Nat)(seen:Array Nat):Obj:=.mapIter (some a) n seen n
def mg{P:Program}{b d c:TypeId}(e:P.underlying b=some (.map d c))(w:World)(a:Nat)(l:List (ByteArray×Value))(h:TQ w a l):
 (Instr.range b (.map (some a))).run P w=.ok (Az w.heap.size) (w.alloc (itO a l.length #[])):=run_range_map w b d c a _ _ e h
def Alq(m:List (ByteArray×LkV)):(Yo m).length=m.length:=by simp[Yo]
def Alr(m:List (ByteArray×LkV))(a:Nat)(h:a<(Yo m).length)(h2:a<m.length):(Yo m)[a]=(m[a].1,lkV m[a].2):=by simp[Yo]
open Go.ChangeMaps(setBlock)
def bG(w:World)(b:Nat)(o:Obj):Touch (λa=>a=b) w (setBlock w b o):=
 ⟨rfl,rfl,rfl,by simp[setBlock],λa e d=>by
  simp only[setBlock];rw[Array.getElem?_setIfInBounds,if_neg (λc=>d c.symm)]⟩
def mi{P:Program}(w:World)(m:TypeId)(r b:Nat)(seen:Array Nat)(l:List (ByteArray×Value))(h:TQ w b l)(i:w.heap[r]?=some (itO b l.length seen)):
 ((∀a,a<l.length->seen.contains a=true)/\(Instr.next (Az r) false m).run P w=.ok (.tuple #[.bool false]) w)\/
 ∃a,∃e:a<l.length,∃c:World,seen.contains a=false/\(leftOf (WC 0 l).toArray (seen.push a)).size<(leftOf (WC 0 l).toArray seen).size/\Touch (λf=>f=r) w c/\c.heap.size=w.heap.size/\c.heap[r]?=some (itO b l.length (seen.push a))/\
  (Instr.next (Az r) false m).run P w=.ok (.tuple #[.bool true,.string l[a].1,l[a].2]) c/\(Instr.entry (Az r)).run P c=.ok (.tuple #[.string l[a].1,l[a].2]) c:=by
 have z:b≠r:=λd=>by
  rw[<-d,show w.heap[b]?=some (.map (WC 0 l).toArray l.length)from h]at i;cases i
 have y:∀x∈(WC 0 l).toArray.toList,x.born<l.length:=λx B=>by
  obtain⟨a,e,rfl⟩:=mf l 0 B;simpa using e
 rcases run_next_at (P:=P) w m r b l.length l.length seen (WC 0 l).toArray l.length i h y (Ad _)with⟨s,j⟩|⟨d,o,g,t,j⟩
 ·refine .inl ⟨λa e=>?_,j⟩;have:=all_seen (WC 0 l).toArray seen s _ (Aba l 0 a e);simpa using this
 ·obtain⟨p,v⟩:=mem_left o;obtain⟨a,e,q⟩:=mf l 0 (show d∈WC 0 l from p);have u:=left_shrinks (WC 0 l).toArray seen d o;rw[Nat.zero_add]at q;subst q;have k:Touch (λf=>f=r) w g/\g.heap.size=w.heap.size:=by
   rcases t with rfl|rfl
   ·exact⟨Touch.refl _ _,rfl⟩
   ·exact⟨Touch.of_below ((Dr.one w 1).below _),rfl⟩
  have A:r<g.heap.size:=by rw[k.2];exact(AA.1 i).1
  have n:(setBlock g r (itO b l.length (seen.push a))).heap[r]?=some (itO b l.length (seen.push a)):=by simp[setBlock,A]
  have t2:Touch (λf=>f=r) w (setBlock g r (itO b l.length (seen.push a))):=k.1.trans (bG _ _ _) (λ_ d=>.inl d);refine .inr ⟨a,e,_,v,u,t2,by rw[<-k.2];simp[setBlock],n,j,?_⟩;exact run_entry_at (P:=P) _ r b l.length seen (WC 0 l).toArray l.length _ n ((t2.block b h.lt z).trans h) p (Aem l)
end
section
open Go.RowKit Go.Maps Go.Shelf
def U9(l:List Int):List Value:=l.map (Value.int .i64)
def Als(a b:List Int):U9 (a++b)=U9 a++U9 b:=Dc
def KJ(l:List Int):(Du l).length=l.length:=uG _
def Alu(l:List Int):∀a∈U9 l,a.oneCell'=true:=λa b=>by
 obtain⟨c,_,rfl⟩:=BM.1 b;rfl
def Aik{w:World}{b:Nat}{v:Value}(a:List Int)(h:w.ownsRow b 3 1 v a.length (U9 a))(l:b<=w.heap.size)(r:a.length<=1000000000):
 Calls prog 37 #[v] w λc w'=>c=.returned (.tuple #[])/\w'.ownsRow b 3 1 v a.length (U9 (Du a))/\Below b w w':=by
 rcases h.2 with⟨rfl,j⟩|⟨i,g,q,rfl,k,d,p,m,n,f⟩
 ·have o:a=[]:=List.eq_nil_of_length_eq_zero j;subst o;refine(AnyM.slices_Sort_int_none Tryz.sortA none 0 w).mono ?_;rintro c w'⟨rfl,rfl⟩;exact⟨rfl,by simpa[Du,U9]using h,Below.refl _ _⟩
 ·rw[Jg]at f;refine(AnyM.slices_Sort_int Tryz.sortA i 0 g a w (holds_of_blockI d f) (AA.1 d).1 O).mono ?_;rintro c w'⟨rfl,t,u,rfl⟩;refine⟨rfl,ownsRow_sortedI (uG _) k d p m n,?_⟩;exact(Below.refl _ _).grown (grownBy_sortedI _) l (λs e=>by injection e with e;omega)
def Ail{w:World}{A:Option Addr}{c:Nat}(l:List Int)(b:Rd w A (l.length*1) (U9 l))(f:l.length<=100000):
 Calls prog 35 #[.slice A l.length c] w λa w'=>∃g,a=.returned g/\w'.ownsRow w.heap.size 3 1 g l.length (U9 l)/\η w w':=by
 have s:=λm=>Lib.run_eql_slice_nil (P:=prog) m 54 3 A l.length c 0 0 underlying54
 cases A with
 |none=>
  have r:l=[]:=by
   by_cases a:l=[]
   ·exact a
   ·obtain⟨t,v,o,_⟩:=b.2 (Ω (List.length_pos_iff.2 a));cases o
  subst r;simp only[List.length_nil]at s;clear b;go_enter func35,ntmps35
  go_wp2_with fail
  go_ret;exact⟨_,rfl,⟨by simp[U9],.inl ⟨rfl,rfl⟩⟩,Below.refl _ _⟩
 |some n=>
  have k:=Aa b;have i:=Aa f;have e:η w (w.alloc (.cells #[] 3)):=(Below.refl _ _).alloc (Ad _) _;have d:=Aa e;have j:Hid ((w.alloc (.cells #[] 3)).ownsRow w.heap.size 3 1 (.slice (some (Φ w.heap.size)) 0 0) 0 []):=Aa ⟨rfl,.inr ⟨w.heap.size,0,#[],rfl,Ad _,heap_alloc_new _ _,Ad _,by decide,rfl,rfl⟩⟩;clear e b f;go_enter func35,ntmps35
  go_wp2_with(at_builtin;refine IJ rfl (.tmp 5) (.tmp 6) 54 rfl Tryz.WH U w.heap.size (.slice (some (Φ w.heap.size)) 0 0) 0 [] rfl j.out (some n) l.length c (U9 l) rfl (Rd.below k.out d.out) (Alu l) (Ω i.out) U Θ ?_;intro x w' q p u)
  go_ret;exact⟨_,rfl,by simpa using q,d.out.trans p⟩
end
section
open Go.RowKit
def zo{w:World}{f n k c:Nat}{A:Option Addr}{e:TypeId}{xs:List Value}(h:w.ownsRow f e k (.slice A n c) n xs):∀d,A=some d->f<=d.block/\d.block<w.heap.size:=λd a=>by
 rcases h.2 with⟨b,_⟩|⟨m,j,l,b,g,i,_⟩
 ·simp only[Value.slice.injEq]at b;rw[b.1]at a;cases a
 ·simp only[Value.slice.injEq]at b;rw[b.1]at a;injection a with a
  rw[<-a];exact⟨g,(AA.1 i).1⟩
def Alv{w:World}{d n k:Nat}{v:Value}{e:TypeId}{xs:List Value}(h:w.ownsRow d e k v n xs):∀b,v.ownBlock=some b->d<=b/\b<w.heap.size:=λb a=>by
 rcases h.2 with⟨c,_⟩|⟨l,i,j,c,f,g,_⟩
 ·rw[c]at a;cases a
 ·rw[c]at a;injection a with a
  rw[<-a];exact⟨f,(AA.1 g).1⟩
def Rd.kept{w w':World}{A:Option Addr}{n:Nat}{xs:List Value}{r:Option Nat}(h:Rd w A n xs)(k:Kept w w' r)(j:∀a,A=some a->r≠some a.block):Rd w' A n xs:=by
 refine⟨h.1,λi=>?_⟩;obtain⟨b,m,c,d,f⟩:=h.2 i;exact⟨b,m,c,Nat.lt_of_lt_of_le d k.1,λl g=>(World.cell?_of_block (w:=w) (k.2 b d (λe=>j _ c e.symm))).trans (f l g)⟩
def Aen{l:List Int}(h:Ic l=true){i:Nat}{a b:Int}(f:l[i]?=some a)(g:l[i+1]?=some b):a≠b:=by
 obtain⟨j,c⟩:=C9.1 f;obtain⟨e,d⟩:=C9.1 g;have:=fC h i e
 rwa [c,d]at this
def zq{w:World}{A:Option Addr}{l:List (List UInt8×UInt64)}(h:Rd w A (l.length*2) ((l.map itV).flatten))(k:Nat)(j:k<l.length):∃a c,A=some (Δ a c)/\a<w.heap.size/\w.cell? (Δ a (c+k*2))=some (.string ⟨l[k].1.toArray⟩)/\w.cell? (Δ a (c+k*2+1))=some (.int .u64 (l[k].2.toNat:Int)):=by
 obtain⟨a,c,e,f,g⟩:=h.2 O;have d:∀b,b<2->w.cell? (Δ a (c+k*2+b))=(itV l[k])[b]?:=λb i=>by
  rw[SC,g (k*2+b) O];exact flat_get itV 2 (λ_=>rfl) l k b j i
 exact⟨a,c,e,f,d 0 U,d 1 U⟩
section
variable{w w':World}{x d p L:Nat}{s:St}{F:Nat->Prop}
def Aeo(s:St)(w:World)(e:Ending)(w':World):Prop:=
 η w w'/\match Uf s with
  |none=>e=.returned (.tuple #[.slice none 0 0,.int .i64 5])
  |some a=>∃b,e=.returned (.tuple #[b,.int .i64 0])/\w'.ownsRow w.heap.size 3 1 b a.length (U9 a)
def zt(h:Ix w x d p L s F){items:List (List UInt8×UInt64)}{g:List Int}(aR:DZ s=some (items,g))(aG:∀j e,j<=items.length->Gt s (items.take j) (Du g)=some e->e.length<=100000):
 Calls prog 14 #[Az d,Az p,Az x] w (Aeo s w):=by
 have b3:Uf s=match Gt s items (Du g)with|none=>none|some b=>if Ic (Du b)=true then some (Du b)else none:=by unfold Uf;rw[aR];rfl
 have cA:=h.sys.pos.1;have t0:(((L*64:Nat):Int)==0)=false:=ζ O;have a0:=h.sys.size;generalize L*64=dh at a0 t0;have ck:=Aa a0;have bc:=Aa (XQ h);have bm:=Aa h;have bi:=Aa aR;have ao:=Aa aG;have ap:=Aa b3;clear a0 h aR aG b3 cA;go_enter func14,ntmps14
 go_wp2_with fail
 refine ck.out.mono ?_;rintro l dn⟨rfl,rfl⟩;clear ck
 go_wp2_with fail
 refine bc.out.mono ?_;rintro l dp⟨az,bX⟩;rw[bi.out]at bX;obtain⟨dj,rfl,bT,bS⟩:=bX;obtain⟨c2,cw,rfl,cC,aM⟩:=DR bT;rw[show(Am0 g).map (Value.int .i64)=U9 (Du g)from rfl]at aM;have cn:=Aa az;have be:=Aa aM;have ci:=Aa (Tf (bm.out.below az));clear bc bT az aM cC
 go_wp2_with fail
 refine ci.out.mono ?_;rintro l v⟨aB,b0⟩;rw[bi.out]at b0;obtain⟨dk,rfl,bV,cJ⟩:=b0;obtain⟨c3,c4,rfl,cD,b1⟩:=DR bV;have R:=Aa (τ cn.out aB);have cr:=Aa b1;have am:=Rd.below be.out aB;have bb:Hid ((Du g).length<=100000):=Aa (ao.out 0 _ (BB _) rfl);rw[show g.length=(Du g).length from(KJ g).symm]at am;rw[show g.length=(Du g).length from(KJ g).symm];have br:=Aa (Ail (c:=cw) (Du g) am bb.out);clear ci bV aB b1 cD am be
 go_wp2_with fail
 refine br.out.mono ?_;rintro l dq⟨dl,rfl,bW,bA⟩;have ba:=Aa bA;have b9:=Aa bW;clear br bA bW
 go_wp2_with fail
 go_loopw [11,50](λN i wr=>∃(j:Nat)(e:List Int),j<=items.length/\i=.int .i64 (j:Nat)/\Gt s (items.take j) (Du g)=some e/\e.length<=100000/\wr.ownsRow v.heap.size 3 1 N e.length (U9 e)/\η v wr)(λ_ i _=>items.length-(intOf i).toNat)
 case atStart=>exact⟨0,Du g,BB _,rfl,rfl,bb.out,b9.out,ba.out⟩
 case round=>
  obtain⟨j,e,c9,rfl,bx,cB,K,H⟩:=hrel;have HOr:=Aa K;have t:=Aa H;have Q:=Aa bx;clear K H b9 ba bx;by_cases u:j<items.length
  ·obtain⟨C,ce,rfl,bN,cf,M⟩:=zq (Rd.below cr.out t.out) j u;obtain⟨de,cM,cN⟩:=YB u;have dc:=jh j O;have q:=Aa (vM u Q.out);have co:=Aa (λe=>ao.out (j+1) e u);obtain⟨⟨cR,a6⟩,bO⟩:∃cQ,cQ=items[j]:=⟨_,rfl⟩;rw[<-bO]at cf M q;simp only at cf M q;obtain⟨dr,b6,aD,-⟩:=Fz wr 103 [.string ⟨cR.toArray⟩,.int .u64 (a6.toNat:Int)];have z:=Aa (τ t.out aD);have W:=Aa (Mc HOr.out aD);have a7:=τ R.out z.out;have aw:=Aa (SV (bm.out.below a7).sys a6);have cT:=Aa b6;clear bO b6 aD a7 HOr t
   go_wp2_with fail
   rw[<-cT.out];refine aw.out.mono ?_;rintro l cU⟨I,Z⟩;cases Y:Lu s a6 with
   |none=>
    rw[Y]at Z;have av:Hid (Uf s=none):=Aa (by
     have n:=q.out;rw[Y]at n;rw[ap.out,vN u n])
    have V:=Aa (τ R.out (τ z.out I));subst Z;clear aw I W z q
    go_wp2_with fail
    go_ret2;refine⟨V.out,?_⟩;rw[av.out];rfl
   |some f=>
    rw[Y]at Z q;obtain⟨bs,dm,rfl,ar⟩:=Z;have cj:Hid ((e++f.map (·.off)).length<=100000):=Aa (co.out _ q.out);clear Y;have aG:=bs.few;have bd:=Alv W.out;obtain⟨al,c5,rfl,cE,b8⟩:=Vs ar;have G:∀k,al=some k->k.block<cU.heap.size/\u11.ownBlock≠some k.block:=λk m=>by
     obtain⟨n,E⟩:=zo ar k m;exact⟨E,λl=>Ω ((bd _ l).2)⟩
    have a9:=Aa G;have b7:=Aa b8;have V:=Aa (τ z.out I);have bt:=Aa (Mc W.out I);clear aw ar I b8 G bd bs W z cE
    go_wp2_with fail
    go_loopw [11,67](λN i wr=>∃a:Nat,a<=f.length/\i=.int .i64 (a:Nat)/\wr.ownsRow v.heap.size 3 1 N (e++(f.take a).map (·.off)).length (U9 (e++(f.take a).map (·.off)))/\η v wr/\LkR wr al f/\∀k,al=some k->k.block<wr.heap.size/\N.ownBlock≠some k.block)(λ_ i _=>f.length-(intOf i).toNat)
    case atStart=>exact⟨0,BB _,rfl,by simpa using bt.out,V.out,b7.out,a9.out⟩
    case round=>
     obtain⟨a,c7,rfl,K,H,b2,G⟩:=hrel;have D:=Aa K;have r:=Aa H;have B:=Aa b2;have an:=Aa G;clear K H b2 G a9 bt V b7;by_cases o:a<f.length
     ·obtain⟨cP,a2,a3⟩:=YB o;have cL:=jh a O;obtain⟨C,ce,rfl,bN,cY,af,ah,c0,c1⟩:=B.out.at a o;have bk:Hid (e++(f.take (a+1)).map (·.off)=e++(f.take a).map (·.off)++[f[a].off]):=Aa (by
       rw[List.take_succ_eq_append_getElem o,Dc,List.append_assoc];rfl)
      have db:(e++(f.take a).map (·.off)).length<=100000:=by
       have:=cj.out;simp only[AY,BX,Em]at this⊢;omega
      generalize f[a]=cS at*;obtain⟨a4,cc,cb,ca,cd⟩:=cS;simp only at cY af ah c0 c1 bk;generalize(e++(f.take a).map (·.off))=bq at*;obtain⟨cW,a1,J,-⟩:=Fz wr 96 [.int .i64 a4,.int .u64 (cc.toNat:Int),.int .u64 (cb.toNat:Int),.bool ca,.string cd];have a5:=Aa (τ r.out J);have T:=Aa (Mc D.out J);have bg:=Aa (B.out.below J);have aL:=(an.out _ rfl).2;have bE:=(an.out _ rfl).1;simp only at aL bE;have a8:Hid (C<cW.heap.size):=Aa (Ω J.size);have S:=Aa aL;rw[a1]at T a5;have ct:=Aa a1;clear a1 J aL bE D r B an
      go_wp2_with(at_builtin;refine E5 rfl (.tmp 71) (.tmp 74) 54 rfl Tryz.WH (wr.alloc (.cells #[.int .i64 a4,.int .u64 (cc.toNat:Int),.int .u64 (cb.toNat:Int),.bool ca,.string cd] 96)) v.heap.size u11 bq.length (U9 bq) [.int .i64 a4] rfl (by exact T.out) rfl _ 1 rfl Θ rfl U (by intro N b5;simp at b5;subst b5;rfl) O U (by exact a5.out.size) ?_;intro cz c6 cX bw ch X aH)
      have cp:=Aa bw;have cv:=Aa (a5.out.trans ch);rw[<-ct.out]at X aH;have cs:=Aa (Rd.kept bg.out X (λk m=>by injection m with m;rw[<-m];exact S.out));have cm:Hid (C<cX.heap.size/\some cz≠some C):=Aa (by
       refine⟨Ψ X.1 a8.out,λl=>?_⟩;injection l with l
       rcases aH with h|h
       ·exact S.out (by rw[h,l])
       ·have:=a8.out;omega)
      clear bw ch X aH bg
      go_wp2_with fail
      go_roundw
      case rel=>exact⟨a+1,O,by go_num,by rw[bk.out,AY,Als];exact cp.out,cv.out,cs.out,λk m=>by injection m with m;subst m;exact cm.out⟩
      case measure=>simp[intOf];omega
     ·obtain⟨a2,a3⟩:=uH o;have cH:a=f.length:=O;subst cH;have T:Hid (wr.ownsRow v.heap.size 3 1 u11 (e++f.map (·.off)).length (U9 (e++f.map (·.off)))):=Aa (by have:=D.out;rwa [Ny]at this);clear D
      go_wp2_with fail
      go_roundw
      case rel=>exact⟨j+1,_,O,by go_num,q.out,cj.out,T.out,r.out⟩
      case measure=>simp[intOf];omega
  ·obtain⟨cM,cN⟩:=uH u;have cI:j=items.length:=O;subst cI;obtain⟨b,bR⟩:=ε e;rw[<-bR]at HOr cB Q;have bh:Hid (Uf s=if Ic (Du b)=true then some (Du b)else none):=Aa (by
    have n:=Q.out;rw[Ny]at n;rw[ap.out,n])
   have bj:=Aa (Aik b HOr.out t.out.size O);clear Q bR ap ao
   go_wp2_with fail
   refine bj.out.mono ?_;rintro l cV⟨rfl,ac,bB⟩;obtain⟨cl,cx,rfl,cF,cg⟩:=DR ac;have D:=Aa ac;have r:=Aa (τ R.out (t.out.trans bB));have B:=Aa cg;have ad:=Aa (KJ b);have cy:=Aa (iP ac R.out.size);clear bj ac bB cg HOr t cF
   go_wp2_with fail
   go_loopw [18](λi wr=>∃a:Nat,1<=a/\(a<=b.length\/a=1)/\i=.int .i64 (a:Nat)/\η cV wr/\jC (Du b) a)(λi _=>b.length-(intOf i).toNat)
   case atStart=>exact⟨1,Ad _,.inr rfl,rfl,Below.refl _ _,λi n E=>absurd E O⟩
   case round=>
    obtain⟨a,cG,c8,rfl,bL,b4⟩:=hrel;have A:=Aa bL;have aq:=Aa b4;clear bL b4;by_cases o:a<b.length
    ·obtain⟨cP,a2,a3⟩:=YB o;have cL:=jh a O;have dd:IntKind.i64.wrap ((a:Int) -1)=((a-1:Nat):Int):=by rw[IntWalk.i64_in _ O];omega
     obtain⟨C,ce,rfl,bN,aE⟩:=(Rd.below B.out A.out).2 O;have af:=aE a O;have ah:=aE (a-1) O;obtain⟨y,aa⟩:∃y,(Du b)[a]?=some y:=⟨_,Ae (by rw[ad.out];exact o)⟩;obtain⟨P,ab⟩:∃P,(Du b)[a-1]?=some P:=⟨_,Ae (by rw[ad.out];omega)⟩;rw[U9,CB,aa]at af;rw[U9,CB,ab]at ah;simp only[DJ]at af ah;have bS:a-1<b.length:=O;have cJ:decide (((a-1:Nat):Int)<(b.length:Int))=true:=decide_eq_true O;have da:decide ((a-1:Nat)<b.length)=true:=decide_eq_true bS;have bo:Hid ((Du b)[a-1+1]?=some y):=Aa (by rw[show a-1+1=a by omega];exact aa);have bp:=Aa ab;have bl:Hid (y≠P->jC (Du b) (a+1)):=Aa (nX cG aq.out aa ab);clear aE aa ab;generalize a-1=dg at*;cases M:(y==P)with
     |true=>
      have av:Hid (Ic (Du b)=false):=Aa (by
       cases cK:Ic (Du b)with
       |false=>rfl
       |true=>exact absurd (beq_iff_eq.1 M).symm (Aen cK bp.out bo.out))
      clear bl bo bp aq
      go_wp2_with fail
      go_quiet(fail)
      go_wp2_with fail
      go_ret2;refine⟨τ r.out (A.out.trans ((Dr.one _ _).below _)),?_⟩;rw[bh.out,av.out,if_neg Bool.false_ne_true];rfl
     |false=>
      have S:Hid (y≠P):=Aa (beq_eq_false_iff_ne.1 M)
      go_wp2_with fail
      go_quiet(fail)
      go_wp2_with fail
      go_roundw
      case rel=>exact⟨a+1,O,.inl O,by go_num,A.out.trans ((Dr.one _ _).below _),bl.out S.out⟩
      case measure=>simp[intOf];omega
    ·obtain⟨a2,a3⟩:=uH o;have cq:Hid (Ic (Du b)=true):=Aa (zQ (λi n E=>aq.out i n (Ω ad.out) E))
     go_wp2_with fail
     go_ret2;refine⟨τ r.out A.out,?_⟩;rw[bh.out,cq.out,if_pos rfl];have:wr.ownsRow w.heap.size 3 1 (.slice cl b.length cx) (Du b).length (U9 (Du b)):=by rw[ad.out];exact Mc cy.out A.out
     exact⟨_,rfl,this⟩
def MG(h:Ix w x d p L s F){items:List (List UInt8×UInt64)}{j:List Int}(i:DZ s=some (items,j)){l:List Int}(f:Gt s items (Du j)=some l)(z:l.length<=100000)(q:Ic (Du l)=true):
 Calls prog 14 #[Az d,Az p,Az x] w λc w'=>∃b,c=.returned (.tuple #[b,.int .i64 0])/\w'.ownsRow w.heap.size 3 1 b l.length (U9 (Du l))/\η w w':=by
 refine(zt h i (λu y r a=>?_)).mono ?_
 ·obtain⟨v,m,n⟩:=YR f u r;rw[m]at a;injection a with a
  have:=fB n;rw[a]at this;omega
 ·rintro c w'⟨o,g⟩;have t:Uf s=some (Du l):=by unfold Uf;rw[i];simp only[f,q,if_true]
  rw[t]at g;obtain⟨b,k,e⟩:=g;rw[KJ]at e;exact⟨b,k,e,o⟩
end
def zu(s:St)(slot:Nat)(items:List (List UInt8×UInt64)):Prop:=∀b(h:b<items.length),∃a c,Lu s items[b].2=some (a::c)/\a.rc.stamp.toNat<=slot
section
variable{w w':World}{x d p L:Nat}{s:St}{F:Nat->Prop}
def tZ(h:Ix w x d p L s F){items:List (List UInt8×UInt64)}{an:List Int}(G:DZ s=some (items,an))(slot:UInt64)(z:zu s slot.toNat items):
 Calls prog 28 #[Az d,Az p,Az x,.int .u64 (slot.toNat:Int)] w λi w'=>i=.returned (.int .i64 0)/\η w w':=by
 have N:=Aa (Tf h);have Y:=Aa h;have X:=Aa G;have V:=Aa z;clear h G z;go_enter func28,ntmps28
 go_wp2_with fail
 refine N.out.mono ?_;rintro i aq⟨u,C⟩;rw[X.out]at C;obtain⟨a6,rfl,B,a0⟩:=C;obtain⟨aw,aG,rfl,aa,E⟩:=DR B;have l:=Aa u;have W:=Aa E;clear N B u E aa
 go_wp2_with fail
 go_loopw [26](λb wr=>∃a:Nat,a<=items.length/\b=.int .i64 (a:Nat)/\η aq wr)(λb _=>items.length-(intOf b).toNat)
 case atStart=>exact⟨0,BB _,rfl,Below.refl _ _⟩
 case round=>
  obtain⟨a,aR,rfl,t⟩:=hrel;have c:=Aa t;clear t;by_cases g:a<items.length
  ·obtain⟨aD,a4,rfl,aM,K,M⟩:=zq (Rd.below W.out c.out) a g;obtain⟨a3,af,ah⟩:=YB g;have a2:=jh a O;obtain⟨e,ao,f,ad⟩:=V.out a g;obtain⟨⟨am,P⟩,A⟩:∃al,al=items[a]:=⟨_,rfl⟩;rw[<-A]at K M f;simp only at K M f;have n:=Aa f;obtain⟨a8,H,v,-⟩:=Fz wr 103 [.string ⟨am.toArray⟩,.int .u64 (P.toNat:Int)];have m:=Aa (τ c.out v);have k:=τ l.out m.out;have r:=Aa (SV (Y.out.below k).sys P);have ap:=Aa H;clear f A H v k c
   go_wp2_with fail
   rw[<-ap.out];refine r.out.mono ?_;rintro i ar⟨y,D⟩;rw[n.out]at D;obtain⟨q,a7,rfl,o⟩:=D;have ac:=q.few;obtain⟨az,aH,rfl,ab,I⟩:=Vs o;have Z:=Aa (τ m.out y);obtain⟨aE,aB,rfl,aL,Q,R,S,T,U⟩:=I.at 0 Θ;obtain⟨J,j⟩:=ε ((e::ao).length);have a1:0<J:=by rw[j];simp
   rw[<-j];rw[Nat.zero_mul,Nat.add_zero]at Q R S T U;simp only[List.getElem_cons_zero]at R;have t0:decide ((0:Int)<(J:Int))=true:=decide_eq_true O;have t1:decide ((slot.toNat:Int)<(e.rc.stamp.toNat:Int))=false:=decide_eq_false O;have t2:decide (slot.toNat<e.rc.stamp.toNat)=false:=decide_eq_false O;generalize e.rc.stamp=a5 at*;clear r o y I q ab j Q S T U ad ac n
   go_wp2_with fail
   go_loopw [15](λb av=>b=.int .i64 0/\av=ar)(λ_ _=>0)
   case atStart=>exact⟨rfl,rfl⟩
   case round=>
    obtain⟨rfl,rfl⟩:=hrel
    go_wp2_with fail
    go_roundw
    case rel=>exact⟨a+1,O,by go_num,Z.out⟩
    case measure=>simp[intOf];omega
  ·obtain⟨af,ah⟩:=uH g
   go_wp2_with fail
   go_ret;exact⟨rfl,τ l.out c.out⟩
def Xj{ws:Nat->UInt64}{own Z:Nat->Prop}{G:St->Prop}{sh:Sh}(bo:0<L)(bm:L<=1024)(i:shapeOf L=some sh)(h:Dev w d L ws M0 (λ_=>0) own)(z:Tabs w)(ab:¬own 0)(ac:¬own 1)
 (af:wordsAt ws 0 8=wordsOf sh)(aq:∀aL,aL<sh.BQ->FW (ws (sh.table/8+aL)).toNat=true)(C:s={sh:=sh,ws:=ws,tk:=wordsAt ws (sh.table/8) sh.BQ,hd:=BC sh.BQ 0}){r:List (List UInt8×UInt64)×List Int}(aD:DZ s=some r)(bp:(ws 8).toNat<=60000)
 (ap:∀(e:World)(p x:Nat)(F:Nat->Prop),Ix e x d p L s F->Calls prog 14 #[Az d,Az p,Az x] e λc w'=>(∃a4 bq bk,c=.returned (.tuple #[.slice a4 bq bk,.int .i64 0]))/\η e w')
 (al:∀(e:World)(p x:Nat)(F:Nat->Prop),Ix e x d p L s F->w.heap.size+1<=e.heap.size->(∀a,F a->own a\/w.heap.size+1<=a)->Calls prog 28 #[Az d,Az p,Az x,.int .u64 ((ws 8).toNat:Int)] e λc f=>c=.returned (.int .i64 0)/\
  ∃br m,Ix f x d p L br m/\AP F m e f/\Touch (λa=>Z a\/w.heap.size+1<=a) e f/\Calls prog 29 #[Az d,Az p,Az x] f λc y=>c=.returned (.int .i64 0)/\
   ∃a1 N,Ix y x d p L a1 N/\AP m N f y/\Touch (λa=>Z a\/w.heap.size+1<=a) f y/\G a1):
 Calls prog 10 #[Az d] w λc w'=>∃p x F a0,c=.returned (.tuple #[.agg #[Az p,Az x,.int .u64 ((ws 8).toNat:Int)],.int .i64 0])/\
  Ix w' x d p L a0 F/\G a0/\Touch Z w w'/\(∀a,F a->own a\/w.heap.size<=a)/\w.heap.size<=x:=by
 have a3:=Aa z.lt;obtain⟨bt,D,l,am⟩:=Fz w 45 [.pointer none,.pointer none,.int .u64 0];have a9:=Aa am;have t:=Aa (gy bo bm i U (h.below l) (z.below l) ab ac af aq);rw[<-C]at t;have a6:=Aa l;have bg:=Aa D;have bS:bt.heap.size=w.heap.size+1:=by rw[D];simp
 have aR:Hid (∀a,own a->a<w.heap.size):=Aa (λa b=>h.lt a b);have ah:s.ws 8=ws 8:=by rw[C]
 have a5:=Aa ah;have bd:=Aa aD;have S:=Aa ap;have V:=Aa al;have t6:decide ((60000:Int)<((ws 8).toNat:Int))=false:=decide_eq_false O;have t7:decide (60000<(ws 8).toNat)=false:=decide_eq_false O;have bb:Hid (8<8*L):=Aa (Ξ ((IL i).fits) ((IL i).KT) ((IL i).BQ));clear h z ab ac af aq C aD bp ap al D l am ah i;go_enter func10,ntmps10
 go_wp2_with fail
 rw[<-bg.out];refine t.out.mono ?_;rintro c bW⟨p,F,rfl,aE,ar,an⟩;have P:=Aa ar;have Q:=Aa (bD aE);have o:Hid (∀a,F a->own a\/w.heap.size+1<=a):=Aa (λa b=>(an a b).imp id (λh=>O));clear t aE ar an
 go_wp2_with fail
 refine Q.out.mono ?_;rintro c bX⟨av,aB⟩;rw[bd.out]at aB;obtain⟨x,rfl,E,I⟩:=aB;have a7:=Aa (τ P.out av);have bh:=Aa E;have bi:=Aa I;have R:=Aa (S.out _ _ _ _ E);clear Q av E I S
 go_wp2_with fail
 refine R.out.mono ?_;rintro c b0⟨⟨bB,bT,bL,rfl⟩,B⟩;have k:=Aa (τ a7.out B);have H:=bh.out.below B;have q:=Aa (H.sys.load 8 bb.out);rw[a5.out,show((8*8:Nat):Int)=64 from rfl]at q;have aa:=Aa (V.out _ _ _ _ H (Ω k.out.size) o.out);clear R B H V
 go_wp2_with fail
 refine q.out.mono ?_;rintro c b1⟨rfl,rfl⟩;clear q
 go_wp2_with fail
 refine aa.out.mono ?_;rintro c b2⟨rfl,bV,bE,-,W,a2,aw⟩;have X:=Aa W;have T:=Aa a2;have M:=Aa aw;clear aa W a2 aw
 go_wp2_with fail
 refine M.out.mono ?_;rintro c j⟨rfl,bs,n,aH,Y,aG,az⟩;have u:=Aa aH;have a8:=Aa az;have aM:=Aa (X.out.trans Y);have bc:Hid (¬F w.heap.size):=Aa (λb=>(o.out _ b).elim (λh=>Ω (aR.out _ h)) (λh=>O));have be:Hid (Touch Z w j):=Aa (((Touch.of_below (τ a6.out k.out)).trans T.out (λa b=>b.imp id (λh=>O))).trans aG (λa b=>b.imp id (λh=>O)));have g:CQ j w.heap.size 45 [.pointer none,.pointer none,.int .u64 0]:=by
  have ad:=a9.out.ξ k.out;exact(aM.out.touch.block _ ad.lt bc.out).trans ad
 have f0:=g.frozen 0;have f1:=g.frozen 1;have f2:=g.frozen 2;obtain⟨bN,bO,bR⟩:=g.p3;have ba:=Aa g;clear M aH Y aG az g X T
 go_wp2_with fail
 obtain⟨e,A⟩:=ε (((j.setCell (Φ w.heap.size) (Az p)).setCell (Δ w.heap.size 1) (Az x)).setCell (Δ w.heap.size 2) (.int .u64 ((ws 8).toNat:Int)));rw[<-A];have K:Touch (λJ=>J=w.heap.size) j e:=by rw[A];exact(((Touch.refl (λJ=>J=w.heap.size) j).setCell (p:=Φ w.heap.size) (.inl rfl) _).setCell (p:=Δ w.heap.size 1) (.inl rfl) _).setCell (p:=Δ w.heap.size 2) (.inl rfl) _
 have bj:CQ e w.heap.size 45 [Az p,Az x,.int .u64 ((ws 8).toNat:Int)]:=by rw[A];exact((ba.out.AZ 0 _).AZ 1 _).AZ 2 _
 obtain⟨bw,bx,bA⟩:=bj.p3;refine bodyPost_ret (v:=.tuple #[.agg #[Az p,Az x,.int .u64 ((ws 8).toNat:Int)],.int .i64 0]) (by simp[results,results10,go_sem,bw,bx,bA]) rfl ?_;have ao:∀a,n a->own a\/w.heap.size+1<=a:=λa b=>(aM.out.own a b).elim (o.out a) (λh=>.inr (Ω k.out.size))
 have bl:∀a,n a->¬a=w.heap.size:=λa b c=>(ao a b).elim (λh=>Ω (aR.out a h)) (λh=>O)
 have I:w.heap.size<x:=by
  have:=bi.out;have:=P.out.size;omega
 exact⟨p,x,n,bs,rfl,⟨u.out.sys.keep K bl (λc=>Ω a3.out) (λc=>Ω a3.out),u.out.box.touch K O,u.out.out⟩,a8.out,be.out.trans K (λa b=>.inr (Nat.le_of_eq b.symm)),λa b=>(ao a b).imp id (λh=>O),O⟩
def Aio{ws:Nat->UInt64}{own:Nat->Prop}{sh:Sh}(y:0<L)(v:L<=1024)(E:shapeOf L=some sh)(h:Dev w d L ws M0 (λ_=>0) own)(z:Tabs w)(r:¬own 0)(t:¬own 1)
 (u:wordsAt ws 0 8=wordsOf sh)(A:∀k,k<sh.BQ->FW (ws (sh.table/8+k)).toNat=true)(I:s={sh:=sh,ws:=ws,tk:=wordsAt ws (sh.table/8) sh.BQ,hd:=BC sh.BQ 0})
 {items:List (List UInt8×UInt64)}{m:List Int}(j:DZ s=some (items,m)){l:List Int}(i:Gt s items (Du m)=some l)(D:l.length<=100000)(C:Ic (Du l)=true)(H:(ws 8).toNat<=60000)(B:zu s (ws 8).toNat items)
 (hF:∀(e:World)(p x:Nat)(F:Nat->Prop),Ix e x d p L s F->Calls prog 29 #[Az d,Az p,Az x] e λb w'=>b=.returned (.int .i64 0)/\η e w'):
 Calls prog 10 #[Az d] w λb w'=>∃p x F,b=.returned (.tuple #[.agg #[Az p,Az x,.int .u64 ((ws 8).toNat:Int)],.int .i64 0])/\
  Ix w' x d p L s F/\η w w'/\(∀f,F f->own f\/w.heap.size<=f)/\w.heap.size<=x:=by
 refine(Xj (Z:=λ_=>False) (G:=λn=>n=s) y v E h z r t u A I j H (λe p x F a=>(MG a j i D C).mono ?_) (λe p x F a _ _=>(tZ a j (ws 8) B).mono ?_)).mono ?_
 ·rintro b w'⟨O,rfl,i,c⟩;obtain⟨o,q,rfl,_,_⟩:=DR i;exact⟨⟨o,_,q,rfl⟩,c⟩
 ·rintro b M⟨rfl,c⟩;refine⟨rfl,s,F,a.below c,AP.of_below c,Touch.of_below c,(hF _ _ _ _ (a.below c)).mono ?_⟩;rintro b N⟨rfl,g⟩;exact⟨rfl,s,F,(a.below c).below g,AP.of_below g,Touch.of_below g,rfl⟩
 ·rintro b w'⟨p,x,F,n,rfl,a,rfl,J,hF,K⟩;exact⟨p,x,F,rfl,a,J.below (Ad _) (λ_ h=>h.elim),hF,K⟩
end
def VH(l:List Int)(x:Int):Nat:=l.countP λa=>decide (a<x)
def uf(l:List Int)(x:Int)(i:Nat)(hi:i<=l.length)(h1:∀a(h:a<l.length),a<i->l[a]<x)(h2:∀a(h:a<l.length),i<=a->x<=l[a]):VH l x=i:=by
 unfold VH
 conv=>lhs;rw[<-List.take_append_drop i l]
 rw[List.countP_append];have f:(l.take i).countP (λd=>decide (d<x))=i:=by
  have:(l.take i).length=i:=by simp;omega
  conv=>rhs;rw[<-this]
  rw[List.countP_eq_length];intro e b;obtain⟨a,c,rfl⟩:=Cm b;simp at c;simpa using h1 a O O
 have g:(l.drop i).countP (λd=>decide (d<x))=0:=by
  rw[List.countP_eq_zero];intro e b;obtain⟨a,c,rfl⟩:=Cm b;simp at c;have:=h2 (i+a) O O;simp;omega
 omega
def ug(l:List Int)(x:Int)(i:Nat)(h1:∀a(h:a<l.length),a<i->l[a]<x)(h2:∀a(h:a<l.length),i<=a->x<=l[a])
 (g:∀b c(e:b<l.length)(m:c<l.length),b<c->l[b]<l[c])(hi:i<l.length)(j:l[i]≠x):(l.any λk=>k==x)=false:=by
 rw[Qb];intro b e;obtain⟨a,f,rfl⟩:=Cm e;simp;rcases Ir a i with h|h
 ·have:=h1 a f h;omega
 ·rcases Ir i a with d|d
  ·have:=g i a hi f d;have:=h2 i hi (Ad _);omega
  ·obtain rfl:a=i:=O;exact j
def mr(l:List Int)(x:Int)(h1:∀a(h:a<l.length),a<l.length->l[a]<x):(l.any λd=>d==x)=false:=by
 rw[Qb];intro e c;obtain⟨a,b,rfl⟩:=Cm c;have:=h1 a b b;simp;omega
def uh(l:List Int)(x:Int)(i:Nat)(hi:i<l.length)(a:l[i]=x):(l.any λb=>b==x)=true:=by
 rw[QV];exact⟨l[i],BH _,by simpa using a⟩
def Aip{w:World}{A:Option Addr}{l:List Int}(h:Rd w A l.length (U9 l)){a:Nat}(c:a<l.length):∃(_:a<l.length)(p b:Nat),A=some (Δ p b)/\p<w.heap.size/\w.cell? (Δ p (b+a))=some (.int .i64 l[a]):=by
 obtain⟨d,b,e,f,g⟩:=h.2 O;refine⟨c,d,b,e,f,?_⟩;rw[g a c,U9,CB,Ae c];rfl
def ui(x:Int)(w:World):Calls prog 149 #[.int .i64 x] w λa w'=>a=.returned (.bool false)/\w=w':=by
 go_enter func149,ntmps149;go_wp2;go_ret;exact⟨by simp,rfl⟩
def XU(x:Int)(w:World):Calls prog 105 #[.int .i64 x] w λa w'=>a=.returned (.bool false)/\w=w':=by
 go_enter func105,ntmps105;go_wp2;go_ret;exact⟨by simp,rfl⟩
def VI(x b:Int)(w:World):Calls prog 104 #[.int .i64 x,.int .i64 b] w λa w'=>a=.returned (.bool (decide (x<b)))/\w=w':=by
 go_enter func104,ntmps104
 go_wp2_with(go_at_call 149;refine(ui _ _).mono ?_;rintro a w'⟨rfl,rfl⟩)
 go_ret;exact⟨rfl,rfl⟩
def XV(A:Option Addr)(n c:Nat)(l:List Int)(x:Int)(w:World)(Q:n<=1000000)(I:l.length=n)(h:Rd w A n (U9 l))(F:∀t u(N:t<l.length)(P:u<l.length),t<u->l[t]<l[u]):
 Calls prog 61 #[.slice A n c,.int .i64 x] w λj w'=>j=.returned (.tuple #[.int .i64 (VH l x:Nat),.bool (l.any λf=>f==x)])/\w=w':=by
 subst I;have s:=Aa F;clear F;go_enter func61,ntmps61;go_wp2
 go_loopg [7,8]l.length(λG L M wr=>∃b a:Nat,L=.int .i64 b/\M=.int .i64 a/\b<=a/\a<=l.length/\a-b<=G/\wr=w/\(∀d(h:d<l.length),d<b->l[d]<x)/\(∀d(h:d<l.length),a<=d->x<=l[d]))
 case atStart=>exact⟨0,l.length,rfl,rfl,BB _,Ad _,O,rfl,λd _ g=>absurd g (Nat.not_lt_zero _),λd v y=>O⟩
 case round=>
  obtain⟨b,a,rfl,rfl,S,E,R,rfl,v,y⟩:=hrel;have o:=Aa v;have r:=Aa y;clear v y;by_cases T:b<a
  ·obtain⟨D,p,K,rfl,J,z⟩:=Aip h (show(b+a)/2<l.length by omega);generalize m:l[(b+a)/2]=f at z;have Y:=Aa m;clear m;by_cases e:f<x
   ·have B:decide (f<x)=true:=decide_eq_true e
    go_wp2_with(go_at_call 104;refine(VI _ _ _).mono ?_;rintro j w'⟨rfl,rfl⟩)
    go_roundg(a-((b+a)/2+1))
    case measure=>omega
    case rel=>
     refine⟨(b+a)/2+1,a,by rw[show((b:Int)+(a:Int))/2+1=(((b+a)/2+1:Nat):Int)by omega],rfl,O,E,Ad _,rfl,λd g U=>?_,r.out⟩;rcases Ir d ((b+a)/2)with k|k
     ·have:=s.out d ((b+a)/2) g D k;rw[Y.out]at this;omega
     ·obtain rfl:d=(b+a)/2:=O;rw[Y.out];exact e
   ·have B:decide (f<x)=false:=decide_eq_false e
    go_wp2_with(go_at_call 104;refine(VI _ _ _).mono ?_;rintro j w'⟨rfl,rfl⟩)
    go_roundg((b+a)/2-b)
    case measure=>omega
    case rel=>
     refine⟨b,(b+a)/2,rfl,by rw[show((b:Int)+(a:Int))/2=(((b+a)/2:Nat):Int)by omega],O,O,Ad _,rfl,o.out,λd g V=>?_⟩;rcases Ir ((b+a)/2) d with k|k
     ·have:=s.out ((b+a)/2) d D g k;rw[Y.out]at this;omega
     ·obtain rfl:d=(b+a)/2:=O;rw[Y.out];omega
  ·have:a=b:=O;subst this;have q:=Aa (uf l x a E o.out r.out);by_cases C:a<l.length
   ·obtain⟨D,p,K,rfl,J,z⟩:=Aip h C;generalize m:l[a]=f at z;have Y:=Aa m;clear m;by_cases e:f=x
    ·have i:=Aa (uh l x a C (by rw[Y.out];exact e));have B:(f==x)=true:=by rw[beq_iff_eq];exact e
     clear e
     go_wp2_with(go_at_call 105;refine(XU _ _).mono ?_;rintro j w'⟨rfl,rfl⟩)
     go_ret2;exact⟨by rw[q.out,i.out];rfl,rfl⟩
    ·have i:=Aa (ug l x a o.out r.out s.out C (by rw[Y.out];exact e));have B:(f==x)=false:=ζ e;clear e
     go_wp2_with(go_at_call 105;refine(XU _ _).mono ?_;rintro j w'⟨rfl,rfl⟩)
     go_ret2;exact⟨by rw[q.out,i.out];rfl,rfl⟩
   ·have H:a=l.length:=O;have i:=Aa (mr l x (λd g _=>o.out d g O));clear H
    go_wp2_with fail
    go_ret2;exact⟨by rw[q.out,i.out];rfl,rfl⟩
section
variable{w w':World}{x d p L:Nat}{s:St}{F:Nat->Prop}
def Atz{l:List Nat}(h:l.Pairwise (·<·)):∀a b(c:a<(l.map BZ).length)(d:b<(l.map BZ).length),a<b->(l.map BZ)[a]<(l.map BZ)[b]:=λa b c d e=>by
 simp only[BX]at c d;rw[KN,KN];have:=Hz.1 h a b c d e;show(l[a]:Int)<(l[b]:Int);omega
def Aph{l:List Nat}{k:Nat}(b:k<l.length):((l.map BZ).any λa=>a==((l[k]:Nat):Int))=true:=by
 rw[QV];exact⟨((l[k]:Nat):Int),BM.2 ⟨l[k],BH _,rfl⟩,by simp⟩
def free_at{w:World}{A:Option Addr}{l:List Nat}{n:Nat}(m:n=l.length)(h:Rd w A l.length (XA l)){k:Nat}(j:k<n):∃(a b e:Nat),A=some (Δ a b)/\a<w.heap.size/\w.cell? (Δ a (b+k))=some (.int .i64 (e:Int))/\((l.map BZ).any λi=>i==(e:Int))=true:=by
 have c:k<l.length:=O;obtain⟨a,b,o,rfl,f,d,g⟩:=h.at (k:=k) c;rw[XA,CB,Ae c,DJ,Option.some.injEq]at d;subst d;exact⟨a,b,l[k],rfl,f,g,Aph c⟩
def uj(h:Ix w x d p L s F){items:List (List UInt8×UInt64)}{I:List Int}(E:DZ s=some (items,I)){l:List Int}(z:Gt s items (Du I)=some l)(m:l.length<=100000)(y:Ic (Du l)=true)(i:Du l=(En s).map BZ)(G:(En s).Pairwise (·<·)):
 Calls prog 29 #[Az d,Az p,Az x] w λa w'=>a=.returned (.int .i64 0)/\η w w':=by
 have f:=Aa (MG h E z m y);have n:l.length=(En s).length:=by rw[<-KJ l,i,BX]
 rw[n,i]at f;rw[n]at m;have T:=Aa h;have S:=Aa G;clear h E z y i G n;obtain⟨c,q⟩:=ε ((En s).length);go_enter func29,ntmps29
 go_wp2_with fail
 refine f.out.mono ?_;rintro a t⟨az,rfl,A,j⟩;obtain⟨M,U,rfl,V,C⟩:=DR A;have P:=Aa j;have v:=Aa C;have u:=Aa (show Calls prog 16 #[Az p] t λa w'=>∃J,a=.returned J/\w'.ownsRow t.heap.size 3 1 J (En s).length (XA (En s))/\η t w' from by
  obtain⟨aw,am,c,al,ah,own,X,-⟩:=(T.out.below j).sys;exact Vw X.at)
 clear f A j C V
 go_wp2_with fail
 refine u.out.mono ?_;rintro a aa⟨aB,rfl,B,k⟩;obtain⟨ac,af,rfl,W,D⟩:=DR B;have Q:=Aa (τ P.out k);have N:=Aa (v.out.below k);have R:=Aa D;clear u B k D W v;rw[<-q]at m⊢;have e:=Aa q;clear q
 go_wp2_with fail
 go_loopw [26](λr ab=>∃b:Nat,b<=c/\r=.int .i64 (b:Nat)/\ab=aa)(λr _=>c-(intOf r).toNat)
 case atStart=>exact⟨0,BB _,rfl,rfl⟩
 case round=>
  obtain⟨b,ao,rfl,rfl⟩:=hrel;by_cases o:b<c
  ·obtain⟨ad,ar,K,rfl,an,av,H⟩:=free_at e.out (by have:=R.out;rwa [Jg]at this) o;have g:=Aa (XV M (En s).length U ((En s).map BZ) K wr (Ω e.out) Θ (by have:=N.out;rwa [Jg]at this) (Atz S.out));rw[H,<-e.out]at g;clear H;generalize VH ((En s).map BZ) ((K:Nat):Int)=aE at g;obtain⟨aq,Y,Z⟩:=YB o;have ap:=jh b O
   go_wp2_with fail
   refine g.out.mono ?_;rintro a aD⟨rfl,rfl⟩
   go_wp2_with fail
   go_roundw
   case rel=>exact⟨b+1,O,by go_num,by first|rfl|trivial⟩
   case measure=>simp[intOf];omega
  ·obtain⟨Y,Z⟩:=uH o
   go_wp2_with fail
   go_ret;exact⟨rfl,Q.out⟩
end
def Api{l:List Int}(h:l.Pairwise (λx f=>x<f)):∀a b(c:a<l.length)(d:b<l.length),a<b->l[a]<l[b]:=λa b c d e=>Hz.1 h a b c d e
def UA(Y:Nat->Prop)(L:Nat)(s:St)(items:List Kv)(ch:List UInt8->List Lk)(k:Nat)(a:St):Prop:=
 D5 (λc=>Y c/\c∉(En s).take k) L a items ch/\a.sh=s.sh/\(∀b,b<16->a.ws b=s.ws b)/\∀p d,AO a p d<->AO s p d/\¬(Y p/\p∈(En s).take k)
def Aep{Y:Nat->Prop}{L:Nat}{s t:St}{items:List Kv}{ch:List UInt8->List Lk}(B:Bq L s){r:List Int}(A:∀i:Nat,(i:Int)∈r<->(∃d,AO s i d)/\¬Y i){k:Nat}(w:k<(En s).length)(F:UA Y L s items ch k t):
 ((r.any λo=>o==(((En s)[k]:Nat):Int))=true/\UA Y L s items ch (k+1) t)\/
 ((r.any λo=>o==(((En s)[k]:Nat):Int))=false/\∃n,Fj t ((En s)[k]:Nat)=(n,0)/\UA Y L s items ch (k+1) n):=by
 obtain⟨h,C,x,u⟩:=F;have K:∃d,AO s (En s)[k] d:=(Lc B _).1 (BH _);have l:(En s).take (k+1)=(En s).take k++[(En s)[k]]:=by rw[List.take_add_one,Ae w];rfl
 have y:(En s)[k]∉(En s).take k:=λf=>by
  obtain⟨m,j,c⟩:=Cm f;rw[Em]at j;rw[List.getElem_take]at c;have:=Hz.1 (QI B) m k O w O;omega
 by_cases f:(((En s)[k]:Nat):Int)∈r
 ·have z:=((A _).1 f).2;refine .inl ⟨QV.2 ⟨_,f,by simp⟩,h.congr (λi=>?_),C,x,λp d=>?_⟩
  ·rw[l,AL,BG];exact⟨λ⟨a,b⟩=>⟨a,λe=>e.elim b (λc=>z (c▸a))⟩,λ⟨a,b⟩=>⟨a,λe=>b (.inl e)⟩⟩
  ·rw[u p d,l,AL,BG];exact and_congr_right λ_=>not_congr ⟨λ⟨a,b⟩=>⟨a,.inl b⟩,λ⟨a,b⟩=>⟨a,b.resolve_right (λc=>z (c▸a))⟩⟩
 ·have q:Y (En s)[k]:=Classical.byContradiction λH=>f ((A _).2 ⟨K,H⟩)
  obtain⟨n,v,I,J,G⟩:=h.drop (o:=(En s)[k]) ⟨q,y⟩;have M:=h.Ala (o:=(En s)[k]) ⟨q,y⟩ v;refine .inr ⟨?_,n,v,I.congr (λi=>?_),J.trans C,λm j=>(G m j).trans (x m j),λp d=>?_⟩
  ·rw[Qb];intro o N c;rw[beq_iff_eq]at c;exact f (c▸N)
  ·rw[l,AL,BG];exact⟨λ⟨⟨a,b⟩,e⟩=>⟨a,λg=>g.elim b e⟩,λ⟨a,b⟩=>⟨⟨a,λe=>b (.inl e)⟩,λc=>b (.inr c)⟩⟩
  ·rw[M p d,u p d,l,AL,BG];exact⟨λ⟨⟨a,b⟩,e⟩=>⟨a,λ⟨g,D⟩=>D.elim (λE=>b ⟨g,E⟩) e⟩,λ⟨a,b⟩=>⟨⟨a,λ⟨e,g⟩=>b ⟨e,.inl g⟩⟩,λc=>b ⟨c▸q,.inr c⟩⟩⟩
def Aiq{Y:Nat->Prop}{L:Nat}{s i:St}{items:List Kv}{ch:List UInt8->List Lk}(f:Bq L s){r:List Int}(t:∀g:Nat,(g:Int)∈r<->(∃d,AO s g d)/\¬Y g){n k:Nat}(x:n=(En s).length)(v:k<n)(h:UA Y L s items ch k i){w:World}{A:Option Addr}(o:Rd w A (En s).length (XA (En s))):
 ∃a e b:Nat,A=some (Δ a e)/\a<w.heap.size/\w.cell? (Δ a (e+k))=some (.int .i64 (b:Int))/\b<=65536/\(((r.any λj=>j==(b:Int))=true/\UA Y L s items ch (k+1) i)\/
 ((r.any λj=>j==(b:Int))=false/\∃m,Fj i b=(m,0)/\UA Y L s items ch (k+1) m)):=by
 have c:k<(En s).length:=O;obtain⟨a,e,y,rfl,p,l,u⟩:=o.at (k:=k) c;rw[XA,CB,Ae c,DJ,Option.some.injEq]at l;subst l;refine⟨a,e,(En s)[k],rfl,p,u,?_,Aep f t c h⟩;obtain⟨d,q⟩:=(Lc f _).1 (BH c);have:=(q.bounds f).2.1;have:=f.L1;omega
section
variable{w w':World}{x d p L:Nat}{s:St}{F:Nat->Prop}{items:List Kv}{ch:List UInt8->List Lk}{Y:Nat->Prop}
def uo(h:Ix w x d p L s F)(t:D5 Y L s items ch):
 Calls prog 29 #[Az d,Az p,Az x] w λc w'=>c=.returned (.int .i64 0)/\∃m X,Ix w' x d p L m X/\Ce L m items ch/\m.sh=s.sh/\(∀S,S<16->m.ws S=s.ws S)/\AP F X w w'/\∀a d,AO m a d<->AO s a d/\¬Y a:=by
 obtain⟨bE,bL,e,aG,-,aH,T,aL,aM,aR,-⟩:=lK t;have ac:=Aa (MG h aG aH T aL);have a7:=Aa3 t.ix.ok;obtain⟨l,aw⟩:=ε ((En s).length);have bw:l<=100000:=O;have al:=Aa h;have q:=Aa t;have a3:=Aa aM;have a2:=Aa aR;have D:=Aa aw;have an:Hid (∀g,F g->g<w.heap.size):=Aa h.sys.lt;have bx:=T;clear h t aG aH T aL aM aR aw a7;go_enter func29,ntmps29
 go_wp2_with fail
 refine ac.out.mono ?_;rintro c v⟨bS,rfl,P,K⟩;obtain⟨z,a5,rfl,a8,_⟩:=DR P;have aa:=Aa K;have ad:Hid (Jo v F z e.length (U9 (Du e))):=Aa (Jo.KR P (λg a6 _ I=>absurd (an.out g I) O));have Z:=Aa (show Calls prog 16 #[Az p] v λc w'=>∃a0,c=.returned a0/\w'.ownsRow v.heap.size 3 1 a0 (En s).length (XA (En s))/\η v w' from by
  obtain⟨bR,br,l,bq,bp,own,bd,-⟩:=(al.out.below K).sys;exact Vw bd.at)
 clear ac P K a8
 go_wp2_with fail
 refine Z.out.mono ?_;rintro c bl⟨bT,rfl,Q,M⟩;obtain⟨V,bo,rfl,a9,_⟩:=DR Q;have ab:=Aa (τ aa.out M);have W:=Aa (ad.out.below M);have af:Hid (Jo bl F V (En s).length (XA (En s))):=Aa (Jo.KR Q (λg a6 _ I=>absurd (an.out g I) (Ω aa.out.size)));have am:=Aa (al.out.below ab.out);clear Z Q M a9 ad;rw[<-D.out]
 go_wp2_with fail
 go_loopw [26](λR y=>∃(b:Nat)(n:St)(f:Nat->Prop),b<=l/\R=.int .i64 (b:Nat)/\Ix y x d p L n f/\UA Y L s items ch b n/\AP F f w y/\Jo y f z e.length (U9 (Du e))/\Jo y f V (En s).length (XA (En s)))(λR _=>l-(intOf R).toNat)
 case atStart=>exact⟨0,s,F,BB _,rfl,am.out,⟨q.out.congr (λa=>⟨λh=>⟨h,λh=>(nomatch h)⟩,λh=>h.1⟩),rfl,λ_ _=>rfl,λ_ _=>⟨λh=>⟨h,λh=>(nomatch h.2)⟩,λh=>h.1⟩⟩,AP.of_below ab.out,W.out,af.out⟩
 case round=>
  obtain⟨b,n,f,bt,rfl,aE,u,av,az,aB⟩:=hrel;have r:=Aa aE;have C:=Aa av;have A:=Aa az;have B:=Aa aB;have ah:=Aa u;clear aE av az aB u am W af;by_cases N:b<l
  ·obtain⟨g,bN,U,rfl,bs,bO,bj,aD⟩:=Aiq q.out.ix.ok a2.out D.out N ah.out B.out.1;have G:=Aa aD;have i:=Aa (XV z e.length a5 (Du e) U wr O (KJ e) A.out.1 (Api a3.out));have o:=Aa (fQ r.out.sys U O);clear aD bj;generalize VH (Du e) ((U:Nat):Int)=bW at i;obtain⟨bB,bh,bi⟩:=YB N;have bA:=jh b O;rcases G.out with⟨j,k⟩|⟨j,bk,ao,k⟩
   ·rw[j]at i;have E:=Aa k;clear j k o G
    go_wp2_with fail
    refine i.out.mono ?_;rintro c bm⟨rfl,rfl⟩
    go_wp2_with fail
    go_roundw
    case rel=>exact⟨b+1,n,f,O,by go_num,r.out,E.out,C.out,A.out,B.out⟩
    case measure=>simp[intOf];omega
   ·rw[j]at i;rw[ao]at o;have E:=Aa k;clear j k ao G
    go_wp2_with fail
    refine i.out.mono ?_;rintro c bm⟨rfl,rfl⟩
    go_wp2_with fail
    refine o.out.mono ?_;rintro c bV⟨rfl,a1,ap,J⟩;have a4:=Aa (r.out.move ap J);have H:=Aa J;clear ap J o i
    go_wp2_with fail
    go_roundw
    case rel=>exact⟨b+1,bk,a1,O,by go_num,a4.out,E.out,C.out.trans H.out,A.out.moved H.out,B.out.moved H.out⟩
    case measure=>simp[intOf];omega
  ·obtain⟨bh,bi⟩:=uH N;have ba:b=(En s).length:=Ω D.out
   go_wp2_with fail
   go_ret;obtain⟨u,be,bb,bg⟩:=ah.out;have ar:∀a,Y a->a∈(En s).take b:=λa bc=>by
    rw[ba,Ny];exact(Lc q.out.ix.ok a).2 (q.out.taken bc)
   exact⟨rfl,n,f,r.out,u.ok (λa aq=>aq.2 (ar a aq.1)),be,bb,C.out,λa d=>(bg a d).trans (and_congr_right λ_=>not_congr ⟨λh=>h.1,λh=>⟨h,ar a h⟩⟩)⟩
end
section
variable{Y:Nat->Prop}{L:Nat}{s0 s:St}{items:List Kv}{ch:List UInt8->List Lk}
def Abb(h:D5 Y L s items ch){slot:Nat}(j:∀b,∀l∈ch b,l.rc.stamp.toNat<=slot):zu s slot (items.map λg=>(pairs g.1,g.2)):=by
 intro b e;rw[BX]at e;obtain⟨d,i⟩:=h.chain _ (BH e);have f:=d.listed h.ix.ok;simp only[KN];cases a:ch (items[b]).1 with
 |nil=>exact absurd a (aJ d i)
 |cons c k=>rw[a]at f;exact⟨c,k,f,j _ c (by rw[a];exact BA ..)⟩
def Am2:Prop:=∀(w:World)(d L:Nat)(own Y:Nat->Prop)(s0 s:St)(items:List Kv)(ch:List UInt8->List Lk),0<L->L<=1024->Dev w d L s.ws M0 (λ_=>0) own->Tabs w->¬own 0->¬own 1->shapeOf L=some s.sh->wordsAt s.ws 0 8=wordsOf s.sh->
    Loose L s0 s Y items ch->Bq L s0->(∀e,∀f∈ch e,f.rc.stamp.toNat<=(s.ws 8).toNat)->(s.ws 8).toNat<=60000->
    Calls prog 10 #[Az d] w λc w'=>∃p x F a,c=.returned (.tuple #[.agg #[Az p,Az x,.int .u64 ((s.ws 8).toNat:Int)],.int .i64 0])/\
     Ix w' x d p L a F/\(Ce L a items ch/\a.ws 8=s.ws 8/\En a=En s0)/\Touch own w w'/\(∀b,F b->own b\/w.heap.size<=b)/\w.heap.size<=x
def Aeq{w:World}{d:Nat}{own:Nat->Prop}(O:0<L)(N:L<=1024)(K:Dev w d L s.ws M0 (λ_=>0) own)(P:Tabs w)(C:¬own 0)(D:¬own 1)(S:shapeOf L=some s.sh)(I:wordsAt s.ws 0 8=wordsOf s.sh)
 (g:Loose L s0 s Y items ch)(E:Bq L s0)(_:∀X,∀af∈ch X,af.rc.stamp.toNat<=(s.ws 8).toNat)(H:(s.ws 8).toNat<=60000)
 (J:∀(c:World)(p x:Nat)(F:Nat->Prop),Ix c x d p L (Fp s.ws s.sh) F->D5 Y L (Fp s.ws s.sh) items ch->(∃y,DZ (Fp s.ws s.sh)=some (items.map (λv=>(pairs v.1,v.2)),y))->
  Calls prog 28 #[Az d,Az p,Az x,.int .u64 ((s.ws 8).toNat:Int)] c λe j=>e=.returned (.int .i64 0)/\∃f,Ix j x d p L (Fp s.ws s.sh) f/\AP F f c j):
 Calls prog 10 #[Az d] w λe w'=>∃p x F b,e=.returned (.tuple #[.agg #[Az p,Az x,.int .u64 ((s.ws 8).toNat:Int)],.int .i64 0])/\
  Ix w' x d p L b F/\(Ce L b items ch/\b.ws 8=s.ws 8/\En b=En s0)/\Touch own w w'/\(∀a,F a->own a\/w.heap.size<=a)/\w.heap.size<=x:=by
 obtain⟨n,al⟩:=g.opened;obtain⟨am,y,an,o,Z,aa,ab,ac,_⟩:=lK n;subst Z;refine Xj (s:=Fp s.ws s.sh) (G:=λb=>Ce L b items ch/\b.ws 8=s.ws 8/\En b=En s0) O N S K P C D I (λi q=>?_) rfl o H (λc p x F m=>(MG m o aa ab ac).mono ?_) (λc p x F m T hF=>(J c p x F m n ⟨_,o⟩).mono ?_)
 ·rw[g.sto.ix.ok.sh.table,show 128/8+i=16+i by omega,g.sto.ix.ok.tab i q];exact(g.sto.ix.ok.tk i q).right
 ·rintro e w'⟨ao,rfl,R,k⟩;obtain⟨z,B,rfl,_,_⟩:=DR R;exact⟨⟨z,_,B,rfl⟩,k⟩
 ·rintro e j⟨rfl,f,u,l⟩;have M:∀a,f a->own a\/w.heap.size+1<=a:=λa k=>(l.own a k).elim (hF a) (λh=>.inr (Nat.le_trans T h))
  refine⟨rfl,_,f,u,l,l.touch.mono hF,(uo u n).mono ?_⟩;rintro e ah⟨rfl,ad,A,W,t,_,Q,r,V⟩;exact⟨rfl,ad,A,W,r,r.touch.mono M,t,Q 8 U,g.freed E t.ix.ok V⟩
def uq:Am2:=by
 intro w d L own Y s0 s items ch m l k n e f r j q g b i;exact Aeq m l k n e f r j q g b i λv p x F c t⟨A,u⟩=>(tZ c u (s.ws 8) (Abb t b)).mono λz y⟨o,a⟩=>⟨o,F,c.below a,AP.of_below a⟩
end
