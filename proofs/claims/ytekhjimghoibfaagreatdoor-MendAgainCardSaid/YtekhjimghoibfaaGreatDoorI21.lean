import Derived.Test.YtekhjimghoibfaaGreatDoorI20
set_option linter.defProp false
set_option maxHeartbeats 32000000
set_option maxRecDepth 100000
open Go.Lib renaming hid->Aa
open List renaming length_append->AY,mem_map->BM,getElem?_cons_zero->Ag,getElem?_cons_succ->AB,length_zip->Ai4,getElem?_map->CB,getElem?_eq_getElem->Ae,length->UF,nodup_nil->UE,getElem?_append_right->Eg,map_map->Io,length_cons->BD,nodup_cons->H9,mem_cons_self->BA,mem_cons_of_mem->BO,getD_eq_getElem?_getD->Bo,getElem?_replicate->IG
open Nat renaming le_of_lt->Il,lt_of_le_of_lt->Ju,le_trans->Bi,le_refl->Ad,mul_comm->Hq,not_lt_zero->Ajc
open UInt64 renaming toNat_inj->DK,ofNat->Aj
namespace Go.Proofs.YtekhjimghoibfaaGreatDoor
open Go.RowKit
open Go.Proofs.Tryz
section
variable{len:Mode}{w w':World}{base sb mb x d p L:Nat}{s:St}{F:Nat->Prop}
def Adp(h:IU len w x d p L s F)(_:∀an,F an->an<base){items:List (List UInt8×UInt64)}{e:List Int}{v:Value}(t:FB w base sb mb x items e v)(f:Nat)(g:UInt64)(ahead:List UInt8)(A:Option Addr)(c:Nat)(aq:Pm w A ahead)(br:ahead.length<=c)(bt:ahead.length<=33)(a:Nd)(l:FN s g=some a)(R:Bg g∉e)(al:32<(ahead++a.pre).length):
 Calls prog 110 #[Az sb,.int .u64 (g.toNat:Int),.slice A ahead.length c] w (Q9 (Eb s (f+1) g ahead (items,e)) base sb mb x w):=by
 have a4:Hid (Eb s (f+1) g ahead (items,e)=none):=Aa (by rw[Eb,l];simp only;rw[if_pos (.inr al)]);have bc:decide ((32:Int)<((ahead.length+a.pre.length:Nat):Int))=true:=decide_eq_true (by rw[AY]at al;omega);have ab:=Aa (LY h g);have a5:=Aa l;have ac:=Aa t;have bp:=Aa h;have bL:IntKind.i64.wrap (g.toNat:Int)=Bg g:=rfl;have bA:=(Ha l).1;have bx:=(Ha l).2.1;have bw:=(Ha l).2.2;have a1:=Aa (Vr h l);have Z:=Aa R;have bj:=t.box.p1;have az:base<=w.heap.size:=Il (Ju t.bs t.box.lt);have B:Hid (∀aM∈e.map (λb=>(b,(1:Int))),aM.1≠Bg g):=Aa (λaM bb=>by
  obtain⟨b,ba,rfl⟩:=BM.1 bb;exact λo=>R (o▸ba))
 have X:=Aa aq;generalize Bg g=i at*;clear h t l R aq;go_enter func110,ntmps110
 go_wp2_with fail
 refine ab.out.mono ?_;rintro o bi⟨av,aB⟩;rw[a5.out]at aB;obtain⟨bR,rfl,a9⟩:=aB;obtain⟨y,P,T,ao,V,ap,rfl,S,aH,aL⟩:=a9;obtain⟨C,Q,m,W⟩:=Fz bi 195 [.slice y a.pre.length P,.int .u64 (a.val.toNat:Int),.slice T a.labels.length ao,.slice V a.kids.length ap];have r:η w C:=τ av m;have n:=ac.out.below r;have aG:=jW Tryz.N8 underlying3 Tryz.kK C mb _ i n.map B.out;have E:=wP Tryz.N8 underlying3 C mb _ i 1 n.map B.out;rw[show e.map (λb=>(b,(1:Int)))++[(i,1)]=(e++[i]).map (λb=>(b,(1:Int)))by simp]at E;obtain⟨N,k,K⟩:=n.note a1.out Z.out;obtain⟨D,ar⟩:=ε (EF C mb (I5 0 ((e++[i]).map λb=>(b,1))).toArray ((e++[i]).map λb=>(b,(1:Int))).length);rw[<-ar]at E N k K;have I:=k.box W;have Y:=(X.out.keep (Ep.of_below r)).keep k;have aa:Hid (Yh D w.heap.size (.agg #[.slice y a.pre.length P,.int .u64 (a.val.toNat:Int),.slice T a.labels.length ao,.slice V a.kids.length ap]) a):=Aa (k.nd ⟨_,_,_,_,_,_,rfl,own_below S m,own_below aH m,own_below aL m⟩);have aD:Rd D y a.pre.length (a.pre.map bv):=(CV (k.own (.inl rfl) (own_below S m))).2;clear ar;have G:=n.box.cell 0;have H:=n.box.cell 2;simp only[Ag,AB]at G H;rw[Q]at aG E G H;have bo:=Aa Q;clear bj ab Q
 go_wp2_with fail
 obtain⟨bd,be,bg,bh,-⟩:=CO I;have M:=Aa ((r.mono az).trans K);have af:=Aa ((Ep.of_below r).trans k);have ad:=Aa N;have q:=Aa Y;have aR:=Aa aD;have am:=Aa I;clear aG E G H av m r n k K W I Y aD S aH aL N
 go_region_law(refine KQ rfl (.tmp 42) (.tmp 44) 23 rfl Tryz.Ia A ahead.length (ahead.map bv) (by simp[Act.eval]) (by exact q.out.1) (λa6 o=>by obtain⟨a8,_,_,a7,_⟩:=q.out.2.1 a6 o;exact⟨a8,a7⟩) (λo=>by rw[q.out.2.2 o];rfl) y a.pre.length P (a.pre.map bv) (by simp[Act.eval]) (by exact aR.out) (Iw _) O U ?_;intro a0 bq u bB aE aw ah)
 have j:η D u:=((Dr.drew D).below _).trans aw;have bm:Hid (Pm u a0 (ahead++a.pre)):=Aa (q.out.cut aE j ah);have z:=ad.out.below j;have J:=am.out.ξ j;have bl:=Aa (aa.out.below j);have a3:=Aa (af.out.trans (Ep.of_below j));have a2:=Aa (M.out.trans (j.mono (Bi az (by have:=M.out.size;exact this))));have bN:(Instr.lookup 157 (.map (some mb)) (.int .i64 i) false).run prog u=.ok (.int .i64 1) u:=RF Tryz.N8 underlying3 u mb (e.map λb=>(b,(1:Int))) [] i 1 (by have:=z.map;simpa using this) B.out;obtain⟨G,bS,H⟩:=z.box.p3;obtain⟨bd,be,bg,bh,-⟩:=CO J;have bO:=Aa z;have bk:=Aa J;clear j aw ah aE z J ad q aR am aa af M X B ac Z;have bE:(32:Int)<(ahead.length:Int)+(a.pre.length:Int):=by simp at bc;omega
 go_wp2_with fail
 go_ret;refine⟨a2.out,a3.out,?_⟩;rw[a4.out];rfl
def Adr(h:IU len w x d p L s F)(_:∀ar,F ar->ar<base){items:List (List UInt8×UInt64)}{g:List Int}{v:Value}(u:FB w base sb mb x items g v)(f:Nat)(i:UInt64)(ahead:List UInt8)(A:Option Addr)(c:Nat)(az:Pm w A ahead)(bx:ahead.length<=c)(_:ahead.length<=33)(a:Nd)(m:FN s i=some a)(G:Bg i∉g)(ap:¬32<(ahead++a.pre).length)(V:a.val≠0)(T:J8 (ahead++a.pre)=false):
 Calls prog 110 #[Az sb,.int .u64 (i.toNat:Int),.slice A ahead.length c] w (Q9 (Eb s (f+1) i ahead (items,g)) base sb mb x w):=by
 have a8:Hid (Eb s (f+1) i ahead (items,g)=none):=Aa (by rw[Eb,m];simp only;rw[if_neg (λb=>b.elim (λb=>G (by simpa using b)) ap),if_pos ⟨V,T⟩]);rw[AY]at ap;have bO:¬(32:Int)<(ahead.length:Int)+(a.pre.length:Int):=O;have bN:decide ((32:Int)<((ahead.length+a.pre.length:Nat):Int))=false:=decide_eq_false O;have a7:=Aa T;have bV:((a.val.toNat:Int)!=0)=true:=by
  rw[bne_iff_ne];intro b;exact V (DK.1 (by simp;omega))
 clear T V;have ah:=Aa (LY h i);have ba:=Aa m;have al:=Aa u;have bw:=Aa h;have bR:IntKind.i64.wrap (i.toNat:Int)=Bg i:=rfl;have bE:=(Ha m).1;have bB:=(Ha m).2.1;have bA:=(Ha m).2.2;have a4:=Aa (Vr h m);have ad:=Aa G;have bp:=u.box.p1;have aG:base<=w.heap.size:=Il (Ju u.bs u.box.lt);have C:Hid (∀a2∈g.map (λe=>(e,(1:Int))),a2.1≠Bg i):=Aa (λa2 bi=>by
  obtain⟨e,bh,rfl⟩:=BM.1 bi;exact λb=>G (b▸bh))
 have ab:=Aa az;generalize Bg i=j at*;clear h u m G az;go_enter func110,ntmps110
 go_wp2_with fail
 refine ah.out.mono ?_;rintro b bo⟨aD,aH⟩;rw[ba.out]at aH;obtain⟨bW,rfl,bg⟩:=aH;obtain⟨y,R,X,av,Y,aw,rfl,W,a0,a1⟩:=bg;obtain⟨D,S,n,aa⟩:=Fz bo 195 [.slice y a.pre.length R,.int .u64 (a.val.toNat:Int),.slice X a.labels.length av,.slice Y a.kids.length aw];have t:η w D:=τ aD n;have o:=al.out.below t;have aR:=jW Tryz.N8 underlying3 Tryz.kK D mb _ j o.map C.out;have H:=wP Tryz.N8 underlying3 D mb _ j 1 o.map C.out;rw[show g.map (λe=>(e,(1:Int)))++[(j,1)]=(g++[j]).map (λe=>(e,(1:Int)))by simp]at H;obtain⟨Q,l,N⟩:=o.note a4.out ad.out;obtain⟨E,aB⟩:=ε (EF D mb (I5 0 ((g++[j]).map λe=>(e,1))).toArray ((g++[j]).map λe=>(e,(1:Int))).length);rw[<-aB]at H Q l N;have K:=l.box aa;have ac:=(ab.out.keep (Ep.of_below t)).keep l;have af:Hid (Yh E w.heap.size (.agg #[.slice y a.pre.length R,.int .u64 (a.val.toNat:Int),.slice X a.labels.length av,.slice Y a.kids.length aw]) a):=Aa (l.nd ⟨_,_,_,_,_,_,rfl,own_below W n,own_below a0 n,own_below a1 n⟩);have aL:Rd E y a.pre.length (a.pre.map bv):=(CV (l.own (.inl rfl) (own_below W n))).2;clear aB;have I:=o.box.cell 0;have J:=o.box.cell 2;simp only[Ag,AB]at I J;rw[S]at aR H I J;have bt:=Aa S;clear bp ah S
 go_wp2_with fail
 obtain⟨bj,bk,bl,bm,-⟩:=CO K;have P:=Aa ((t.mono aG).trans N);have an:=Aa ((Ep.of_below t).trans l);have am:=Aa Q;have r:=Aa ac;have a3:=Aa aL;have aq:=Aa K;clear aR H I J aD n t o l N aa K ac aL W a0 a1 Q
 go_region_law(refine KQ rfl (.tmp 42) (.tmp 44) 23 rfl Tryz.Ia A ahead.length (ahead.map bv) (by simp[Act.eval]) (by exact r.out.1) (λbb b=>by obtain⟨be,_,_,bd,_⟩:=r.out.2.1 bb b;exact⟨be,bd⟩) (λb=>by rw[r.out.2.2 b];rfl) y a.pre.length R (a.pre.map bv) (by simp[Act.eval]) (by exact a3.out) (Iw _) O U ?_;intro Z bc q bL aM aE ao)
 have k:η E q:=((Dr.drew E).below _).trans aE;have a9:Hid (Pm q Z (ahead++a.pre)):=Aa (r.out.cut aM k ao);have B:=am.out.below k;have M:=aq.out.ξ k;have br:=Aa (af.out.below k);have a6:=Aa (an.out.trans (Ep.of_below k));have a5:=Aa (P.out.trans (k.mono (Bi aG (by have:=P.out.size;exact this))));have bS:(Instr.lookup 157 (.map (some mb)) (.int .i64 j) false).run prog q=.ok (.int .i64 1) q:=RF Tryz.N8 underlying3 q mb (g.map λe=>(e,(1:Int))) [] j 1 (by have:=B.map;simpa using this) C.out;obtain⟨I,b0,J⟩:=B.box.p3;obtain⟨bj,bk,bl,bm,-⟩:=CO M;have bT:=Aa B;have bq:=Aa M;clear k aE ao aM B M am r a3 aq af an P ab C al ad;have z:=Ang Z (ahead.length+a.pre.length) bc (ahead++a.pre) q O (by have:=a9.out.1;rw[AY]at this;exact this) a7.out;have z:=Aa z
 go_wp2_with fail
 refine z.out.mono ?_;rintro b bX⟨rfl,rfl⟩;clear z
 go_wp2_with fail
 go_ret;refine⟨a5.out,a6.out,?_⟩;rw[a8.out];rfl
end
section
variable{len:Mode}{w w':World}{base sb mb x d p L:Nat}{s:St}{F:Nat->Prop}
def yF(h:IU len w x d p L s F)(hF:∀cB,F cB->cB<base){items:List (List UInt8×UInt64)}{i:List Int}{v:Value}(af:FB w base sb mb x items i v)(f:Nat)(j:UInt64)(ahead:List UInt8)(A:Option Addr)(c:Nat)(cD:Pm w A ahead)(d6:ahead.length<=c)(_:ahead.length<=33)(a:Nd)(u:FN s j=some a)(aG:Bg j∉i)(bb:¬32<(ahead++a.pre).length)(bV:a.val≠0->J8 (ahead++a.pre)=true)(dR:x<base)(dL:0<base/\1<base)(cW:∀(l:World)(aL:UInt64)(ad:List UInt8)(A:Option Addr)(c:Nat)(y:List (List UInt8×UInt64))(mt:List Int)(v:Value),IU len l x d p L s F->FB l base sb mb x y mt v->Pm l A ad->ad.length<=c->ad.length<=33->34<=f+ad.length->Calls prog 110 #[Az sb,.int .u64 (aL.toNat:Int),.slice A ad.length c] l (Q9 (Eb s f aL ad (y,mt)) base sb mb x l))(d5:34<=f+1+ahead.length):
 Calls prog 110 #[Az sb,.int .u64 (j.toNat:Int),.slice A ahead.length c] w (Q9 (Eb s (f+1) j ahead (items,i)) base sb mb x w):=by
 have bL:Hid (a.val=0->Eb s (f+1) j ahead (items,i)=(a.labels.zip a.kids).foldlM (λ(Y:List (List UInt8×UInt64)×List Int)(q:UInt8×UInt64)=>Eb s f q.2 (ahead++a.pre++[q.1]) Y) (items,i++[Bg j])):=Aa (λg=>by rw[Eb,u];simp only;rw[if_neg (λb=>b.elim (λb=>aG (by simpa using b)) bb),if_neg (λb=>b.1 g),if_neg (λb=>b g)]);have ca:Hid (a.val≠0->Eb s (f+1) j ahead (items,i)=(a.labels.zip a.kids).foldlM (λ(Y:List (List UInt8×UInt64)×List Int)(q:UInt8×UInt64)=>Eb s f q.2 (ahead++a.pre++[q.1]) Y) (items++[(pairs (ahead++a.pre),a.val)],i++[Bg j])):=Aa (λg=>by rw[Eb,u];simp only;rw[if_neg (λb=>b.elim (λb=>aG (by simpa using b)) bb),if_neg (λb=>by rw[bV g]at b;exact nomatch b.2),if_pos g]);have da:=bb;rw[AY]at da;have eg:¬(32:Int)<(ahead.length:Int)+(a.pre.length:Int):=O;have ef:decide ((32:Int)<((ahead.length+a.pre.length:Nat):Int))=false:=decide_eq_false O;have dh:Hid (a.labels.length=a.kids.length):=Aa (by
  obtain⟨_,_,dU,dd⟩:=h.L0;exact((Bv _).1 (Aag dU dd u).1).2.2.1)
 have dj:=Aa af.len;have a8:=Aa bV;clear bV;have cn:=Aa (LY h j);have dl:=Aa u;have cp:=Aa af;have dp:=Aa h;have ei:IntKind.i64.wrap (j.toNat:Int)=Bg j:=rfl;have d9:=(Ha u).1;have d8:=(Ha u).2.1;have d7:=(Ha u).2.2;have c9:=Aa (Vr h u);have ck:=Aa aG;have d1:=af.box.p1;have T:base<=w.heap.size:=Il (Ju af.bs af.box.lt);have bc:Hid (∀c4∈i.map (λn=>(n,(1:Int))),c4.1≠Bg j):=Aa (λc4 dI=>by
  obtain⟨n,dC,rfl⟩:=BM.1 dI;exact λb=>aG (b▸dC))
 have ch:=Aa cD;generalize Bg j=K at*;clear h af u aG cD;go_enter func110,ntmps110
 go_wp2_with fail
 refine cn.out.mono ?_;rintro b bl⟨cF,cN⟩;rw[dl.out]at cN;obtain⟨ep,rfl,dz⟩:=cN;obtain⟨a2,bR,cc,aw,cd,cC,rfl,b5,c1,c2⟩:=dz;obtain⟨bd,bT,ab,cg⟩:=Fz bl 195 [.slice a2 a.pre.length bR,.int .u64 (a.val.toNat:Int),.slice cc a.labels.length aw,.slice cd a.kids.length cC];have aD:η w bd:=τ cF ab;have ac:=cp.out.below aD;have cX:=jW Tryz.N8 underlying3 Tryz.kK bd mb _ K ac.map bc.out;have bj:=wP Tryz.N8 underlying3 bd mb _ K 1 ac.map bc.out;rw[show i.map (λn=>(n,(1:Int)))++[(K,1)]=(i++[K]).map (λn=>(n,(1:Int)))by simp]at bj;obtain⟨bO,S,bt⟩:=ac.note c9.out ck.out;obtain⟨be,cE⟩:=ε (EF bd mb (I5 0 ((i++[K]).map λn=>(n,1))).toArray ((i++[K]).map λn=>(n,(1:Int))).length);rw[<-cE]at bj bO S bt;have bq:=S.box cg;have ci:=(ch.out.keep (Ep.of_below aD)).keep S;have cl:Hid (Yh be w.heap.size (.agg #[.slice a2 a.pre.length bR,.int .u64 (a.val.toNat:Int),.slice cc a.labels.length aw,.slice cd a.kids.length cC]) a):=Aa (S.nd ⟨_,_,_,_,_,_,rfl,own_below b5 ab,own_below c1 ab,own_below c2 ab⟩);have cP:Rd be a2 a.pre.length (a.pre.map bv):=(CV (S.own (.inl rfl) (own_below b5 ab))).2;clear cE;have E:=ac.box.cell 0;have G:=ac.box.cell 2;simp only[Ag,AB]at E G;rw[bT]at cX bj E G;have d3:=Aa bT;clear d1 cn bT
 go_wp2_with fail
 obtain⟨z,B,C,D,-⟩:=CO bq;have bw:=Aa ((aD.mono T).trans bt);have cx:=Aa ((Ep.of_below aD).trans S);have cw:=Aa bO;have ar:=Aa ci;have c5:=Aa cP;have cA:=Aa bq;clear cX bj E G cF ab aD ac S bt cg bq ci cP b5 c1 c2 bO
 go_region_law(refine KQ rfl (.tmp 42) (.tmp 44) 23 rfl Tryz.Ia A ahead.length (ahead.map bv) (by simp[Act.eval]) (by exact ar.out.1) (λav b=>by obtain⟨az,_,_,t,_⟩:=ar.out.2.1 av b;exact⟨az,t⟩) (λb=>by rw[ar.out.2.2 b];rfl) a2 a.pre.length bR (a.pre.map bv) (by simp[Act.eval]) (by exact c5.out) (Iw _) O U ?_;intro a3 dq Z ea cQ cG cy)
 have P:η be Z:=((Dr.drew be).below _).trans cG;have a9:Hid (Pm Z a3 (ahead++a.pre)):=Aa (ar.out.cut cQ P cy);have ba:=cw.out.below P;have br:=cA.out.ξ P;have bE:=Aa (cl.out.below P);have bx:=Aa (cx.out.trans (Ep.of_below P));have a7:=Aa (bw.out.trans (P.mono (Bi T (by have:=bw.out.size;exact this))));have cY:(Instr.lookup 157 (.map (some mb)) (.int .i64 K) false).run prog Z=.ok (.int .i64 1) Z:=RF Tryz.N8 underlying3 Z mb (i.map λn=>(n,(1:Int))) [] K 1 (by have:=ba.map;simpa using this) bc.out;obtain⟨E,an,G⟩:=ba.box.p3;obtain⟨z,B,C,D,-⟩:=CO br;have b6:=Aa ba;have bm:=Aa br;clear P cG cy cQ ba br cw ar c5 cA cl cx bw ch bc cp ck;generalize cM:ahead.length+a.pre.length=aM at*;have m:=Aa cM;clear cM;by_cases g:a.val=0
 case' pos=>
  have cm:=Aa (bL.out g);have dW:((a.val.toNat:Int)!=0)=false:=by rw[g];rfl
  clear g bL ca a8;obtain⟨cb,W⟩:=ε Z;rw[<-W]at b6 bx a7 a9 bE bm cY E an G z B C D⊢;clear W;have c8:=b6;have M:=a7;have bA:=bx;have co:=a9;have c6:=bE;have a5:=bm
  go_wp2_with fail
 case' neg=>
  have cm:=Aa (ca.out g);have a8:=Aa (a8.out g);have dW:((a.val.toNat:Int)!=0)=true:=by
   rw[bne_iff_ne];intro b;exact g (DK.1 (by simp;omega))
  clear g bL ca;have bB:=Aa (Ajh a3 aM dq (ahead++a.pre) Z (Ω m.out) (by have:=a9.out.1;rw[AY,m.out]at this;exact this) a8.out);obtain⟨b3,bW⟩:∃b3:ByteArray,b3=⟨(pairs (ahead++a.pre)).toArray⟩:=⟨_,rfl⟩;rw[<-bW]at bB;have dg:=Aa bW;clear bW
  go_wp2_with fail
  refine bB.out.mono ?_;rintro b a1⟨rfl,R⟩;have r:=b6.out.below R;have ce:=Aa (bm.out.ξ R);have dS:=Aa (a9.out.keep (Ep.of_below R));have dk:=Aa (bE.out.below R);have de:=Aa (bx.out.trans (Ep.of_below R));have ct:=Aa (a7.out.trans (R.mono (Bi T (by have:=a7.out.size;exact this))));have cq:=Aa r;have db:base<=a1.heap.size:=Bi T ct.out.size;have eb:=r.few;clear E an G z B C D cY bB R;have E:=r.box.cell 0;have an:=r.box.cell 1;have G:=r.box.cell 2;have f1:=r.box.frozen 1;have cS:=r.box.lt;simp only[Ag,AB]at E an G;obtain⟨z,B,C,D,-⟩:=CO ce.out;have cs:Hid (some sb≠v.ownBlock):=Aa (λb=>r.vs b.symm);clear r
  go_wp2_with fail
  go_region_law(refine NK rfl (.tmp 72) (.tmp 77) 98 rfl Tryz.Akf a1 base v items.length (items.map itV).flatten [.string b3,.int .u64 (a.val.toNat:Int)] rfl cq.out.row rfl rfl rfl rfl a1.heap.size 1 rfl rfl rfl U (by intro eo cU;simp at cU;rcases cU with rfl|rfl<;>rfl) O U db ?_;intro du J aa cz cv bg c0;have d2:=(World.cell?_of_block (w:=a1) (a:=Δ sb 1) (bg.2 sb cS cs.out)).trans an;have dt:=(World.frozen?_of_block (w:=a1) (a:=Δ sb 1) (bg.2 sb cS cs.out)).trans f1)
  all_goals
   obtain⟨b8,am,b9⟩:=cq.out.add (pairs (ahead++a.pre),a.val) (by have:=dj.out;simp;omega) (by have:=cz;rw[dg.out]at this;exact this) cv bg c0;obtain⟨cb,W⟩:=ε (aa.setCell (Δ sb 1) (.slice (some (Φ du)) (items.length+1) J));rw[<-W]at b8 am b9;have c8:=Aa b8;have M:=Aa (ct.out.trans b9);have bA:=Aa (de.out.trans am);have co:=Aa (dS.out.keep am);have c6:=Aa (am.nd dk.out);have a5:=Aa (am.box ce.out);have dn:=Aa W;clear z B C D;obtain⟨z,B,C,D,-⟩:=CO a5.out;rw[W]at z B C D;clear b8 am b9 W
   go_wp2_with fail
   rw[<-dn.out];clear cz cv bg c0 d2 dt E an G f1
 all_goals(
  go_loopw [84](λb1 wr=>∃(e:Nat)(y:List (List UInt8×UInt64))(mt:List Int)(bk:Value),e<=a.kids.length/\b1=.int .i64 (e:Nat)/\FB wr base sb mb x y mt bk/\Ep cb wr/\Below base cb wr/\((a.labels.zip a.kids).drop e).foldlM (λ(Y:List (List UInt8×UInt64)×List Int)(q:UInt8×UInt64)=>Eb s f q.2 (ahead++a.pre++[q.1]) Y) (y,mt)=Eb s (f+1) j ahead (items,i))(λb1 _=>a.kids.length-(intOf b1).toNat)
  case atStart=>exact⟨0,_,_,_,Nat.zero_le _,rfl,c8.out,Ep.refl _,Below.refl _ _,by rw[cm.out];rfl⟩
  case round=>
   obtain⟨e,y,mt,bk,ec,rfl,cT,cL,cH,cJ⟩:=hrel;have cr:=Aa cT;have N:=Aa cL;have Q:=Aa cH;have cj:=Aa cJ;clear cT cL cH cJ z B C D;by_cases b0:e<a.kids.length
   ·have bi:e<a.labels.length:=by rw[dh.out];exact b0
    have cV:e<(a.labels.zip a.kids).length:=by rw[Ai4];omega
    have cI:(a.labels.zip a.kids).drop e=(a.labels[e],a.kids[e])::(a.labels.zip a.kids).drop (e+1):=by
     rw[List.drop_eq_getElem_cons cV,List.getElem_zip]
    have bo:=cj.out;rw[cI,List.foldlM_cons]at bo;obtain⟨_,_,_,_,_,_,bS,dV,b7,c3⟩:=N.out.nd c6.out;simp only[Value.agg.injEq]at bS;simp at bS;obtain⟨⟨rfl,rfl⟩,⟨rfl,rfl⟩,⟨rfl,rfl⟩⟩:=bS;obtain⟨el,em,rfl,ed,cK⟩:=(CV c3).2.2 O;obtain⟨ah,al,rfl,ee,bX⟩:=(CV b7).2.2 O;have bp:=cK e b0;rw[CB,Ae b0]at bp;replace bp:_=some (Value.int .u64 (a.kids[e].toNat:Int)):=bp;have a6:=bX e bi;rw[CB,Ae bi]at a6;replace a6:_=some (Value.int .u8 (a.labels[e].toNat:Int)):=a6;generalize a.kids[e]=aL at*;generalize a.labels[e]=o at*;have cf:=Aa bo;obtain⟨z,B,C,D,-⟩:=CO (N.out.box a5.out);have I:=Aa (co.out.keep N.out);have a4:Hid (∀l,Ep wr l->l.cell? (Δ bl.heap.size 2)=some (.slice (some (Δ ah al)) a.labels.length aw)/\l.cell? (Δ ah (al+e))=some (.int .u8 (o.toNat:Int))):=Aa (λl aB=>by
     refine⟨(CO (aB.box (N.out.box a5.out))).2.2.1,?_⟩;obtain⟨d4,en,t,_,dv⟩:=(CV (aB.own (.inl rfl) b7)).2.2 O;injection t with t
     injection t with dr ds
     subst dr ds;rw[dv e bi,<-bX e bi];exact a6)
    have ap:=Aa (λ(l:World)(aB:η wr l)(H:Option Addr)(J:Nat)(X:Pm l H (ahead++a.pre++[o]))(bh:aM+1<=J)=>cW l aL (ahead++a.pre++[o]) H J y mt bk (dp.out.past ((M.out.trans Q.out).trans (aB.mono (Bi T (Bi M.out.size Q.out.size)))) hF dR dL) (cr.out.below aB) X (by have:=m.out;simp;omega) (by simp at bb⊢;omega) (by simp;omega));rw[show(ahead++a.pre++[o]).length=aM+1 by have:=m.out;simp;omega]at ap;have dM:(e:Int)<(a.kids.length:Int):=O;have ej:decide ((e:Int)<(a.kids.length:Int))=true:=decide_eq_true dM;have dO:(e:Int)<(a.labels.length:Int):=O;have ek:decide ((e:Int)<(a.labels.length:Int))=true:=decide_eq_true dO;have eh:IntKind.i64.wrap ((e:Int)+1)=(e:Int)+1:=wrap64 _ O O;clear cK bX dV b7 c3 cI cV bo
    go_wp2_with fail
    cases g:Eb s f aL (ahead++a.pre++[o]) (y,mt)with
    |none=>
     have bN:Hid (Eb s (f+1) j ahead (items,i)=none):=Aa (by rw[<-cf.out];simp only[g];rfl);rw[g]at ap;clear g
     go_region_held_law(λw'=>w'.cell? (Δ bl.heap.size 2)=some (.slice (some (Δ ah al)) a.labels.length aw)/\w'.cell? (Δ ah (al+e))=some (.int .u8 (o.toNat:Int)))(first|go_keep|exact a4.out _ ((Ep.of_below k).trans V)|exact a4.out _ (Ep.of_below k))
      (first
      |(refine TL rfl (.tmp 96) (.tmp 102) 23 rfl Tryz.Ia wr a3 aM ((ahead++a.pre).map bv) (by simp[Act.eval]) (by have:=I.out.1;rw[AY,m.out]at this;exact this) (λav b=>by obtain⟨az,_,_,t,_⟩:=I.out.2.1 av b;exact⟨az,t⟩) (λb=>by have:=congrArg UF (I.out.2.2 b);rw[AY,m.out]at this;exact this) (.int .u8 (o.toNat:Int)) rfl rfl rfl rfl wr.heap.size 1 (by simp[Act.eval]) rfl rfl (Ω m.out) U ?_;intro H J aa bh X k aR;have a0:Pm aa H (ahead++a.pre++[o]):=I.out.cut (by rw[AY,m.out];exact X) k aR)
      |(go_at_call 110;refine(ap.out aa k H J a0 bh).mono ?_;rintro b c7⟨aE,V,aH⟩;replace aH:b=.returned (.int .i64 5):=aH;subst aH))
     all_goals(have ao:=Aa ((M.out.trans Q.out).trans ((k.mono (Bi T (Bi M.out.size Q.out.size))).trans aE)))
     all_goals(have aq:=Aa (((bA.out.trans N.out).trans (Ep.of_below k)).trans V))
     all_goals(clear k aE V X aR a0)
     all_goals(go_wp2_with fail)
     all_goals(go_ret)
     all_goals(refine⟨ao.out,aq.out,?_⟩)
     all_goals(rw[bN.out])
     all_goals rfl
    |some dT=>
     obtain⟨b2,b4⟩:=dT;have dc:Hid (((a.labels.zip a.kids).drop (e+1)).foldlM (λ(Y:List (List UInt8×UInt64)×List Int)(q:UInt8×UInt64)=>Eb s f q.2 (ahead++a.pre++[q.1]) Y) (b2,b4)=Eb s (f+1) j ahead (items,i)):=Aa (by rw[<-cf.out];simp only[g];rfl);rw[g]at ap;clear g
     go_region_held_law(λw'=>w'.cell? (Δ bl.heap.size 2)=some (.slice (some (Δ ah al)) a.labels.length aw)/\w'.cell? (Δ ah (al+e))=some (.int .u8 (o.toNat:Int)))(first|go_keep|exact a4.out _ ((Ep.of_below k).trans V)|exact a4.out _ (Ep.of_below k))
      (first
      |(refine TL rfl (.tmp 96) (.tmp 102) 23 rfl Tryz.Ia wr a3 aM ((ahead++a.pre).map bv) (by simp[Act.eval]) (by have:=I.out.1;rw[AY,m.out]at this;exact this) (λav b=>by obtain⟨az,_,_,t,_⟩:=I.out.2.1 av b;exact⟨az,t⟩) (λb=>by have:=congrArg UF (I.out.2.2 b);rw[AY,m.out]at this;exact this) (.int .u8 (o.toNat:Int)) rfl rfl rfl rfl wr.heap.size 1 (by simp[Act.eval]) rfl rfl (Ω m.out) U ?_;intro H J aa bh X k aR;have a0:Pm aa H (ahead++a.pre++[o]):=I.out.cut (by rw[AY,m.out];exact X) k aR)
      |(go_at_call 110;refine(ap.out aa k H J a0 bh).mono ?_;rintro b c7⟨aE,V,aH⟩;obtain⟨dx,d0,cR⟩:=(aH:b=.returned (.int .i64 0)/\∃dX,FB c7 base sb mb x b2 b4 dX);subst dx))
     all_goals(have ao:=Aa (Q.out.trans ((k.mono (Bi T (Bi M.out.size Q.out.size))).trans aE)))
     all_goals(have aq:=Aa ((N.out.trans (Ep.of_below k)).trans V))
     all_goals(have dm:=Aa cR)
     all_goals(clear k aE V X aR a0 cR)
     all_goals(go_wp2_with fail)
     all_goals(go_roundw)
     all_goals first
      |(case rel=>exact⟨e+1,b2,b4,d0,O,by go_num,dm.out,aq.out,ao.out,dc.out⟩)
      |(case measure=>simp[intOf];omega)
   ·have dy:e=a.kids.length:=O;have bN:Hid (Eb s (f+1) j ahead (items,i)=some (y,mt)):=Aa (by
     rw[<-cj.out,List.drop_of_length_le (by rw[Ai4];omega)];rfl)
    have ao:=Aa (M.out.trans Q.out);have aq:=Aa (bA.out.trans N.out);subst dy;clear cW
    go_wp2_with fail
    go_ret;refine⟨ao.out,aq.out,?_⟩;rw[bN.out];exact⟨rfl,bk,cr.out⟩)
end
def iO{len:Mode}{base sb mb x d p L:Nat}{s:St}{F:Nat->Prop}(hF:∀y,F y->y<base)(B:x<base)(z:0<base/\1<base):∀(f:Nat)(w:World)(a:UInt64)(ahead:List UInt8)(A:Option Addr)(c:Nat)(items:List (List UInt8×UInt64))(l:List Int)(v:Value),IU len w x d p L s F->FB w base sb mb x items l v->Pm w A ahead->ahead.length<=c->ahead.length<=33->34<=f+ahead.length->
 Calls prog 110 #[Az sb,.int .u64 (a.toNat:Int),.slice A ahead.length c] w (Q9 (Eb s f a ahead (items,l)) base sb mb x w)
 |0,w,a,ahead,A,c,items,l,v,h,e,g,i,j,t=>absurd t O
 |f+1,w,a,ahead,A,c,items,l,v,h,e,g,i,j,t=>by
  cases k:FN s a with
  |none=>exact xQ h hF e f a ahead A c k
  |some b=>
   by_cases m:Bg a∈l
   ·exact Ac0 h hF e f a ahead A c g i j b k m
   ·by_cases n:32<(ahead++b.pre).length
    ·exact Adp h hF e f a ahead A c g i j b k m n
    ·have J:=λ(o:World)(K:UInt64)(D:List UInt8)(A:Option Addr)(c:Nat)(C:List (List UInt8×UInt64))(mt:List Int)(v:Value)(q:IU len o x d p L s F)(r:FB o base sb mb x C mt v)E G H I=>iO hF B z f o K D A c C mt v q r E G H I
     by_cases u:b.val≠0/\J8 (ahead++b.pre)=false
     ·exact Adr h hF e f a ahead A c g i j b k m n u.1 u.2
     ·exact yF h hF e f a ahead A c g i j b k m n (λq=>(Bool.eq_false_or_eq_true _).resolve_right λr=>u ⟨q,r⟩) B z J t
def Aa1(w:World)(base:Nat)(v:Value)(items:List (List UInt8×UInt64)):Prop:=w.ownsRow base 103 2 v items.length (items.map itV).flatten
def Ahq(s:St)(w:World)(x:Nat)(e:Ending)(w':World):Prop:=
 η w w'/\match DZ s with
  |none=>e=.returned (.tuple #[.pointer none,.int .i64 5])
  |some (items,a)=>∃sb mb b,e=.returned (.tuple #[Az sb,.int .i64 0])/\FB w' w.heap.size sb mb x items a b
section
variable{len:Mode}{w w':World}{x d p L:Nat}{s:St}{F:Nat->Prop}
def V5(h:IU len w x d p L s F):Calls prog 63 #[Az x] w (Ahq s w x):=by
 have j:=Aa (Ih h ⟨#[]⟩ U);rw[if_neg U]at j;have S:=h.box.lt;have M:=h.sys.lt;have R:=h.sys.tabs.lt;have I:=Aa h;have Y:=λK=>run_makeMap (P:=prog) 157 K
 obtain⟨E,i⟩:=ε ((w.alloc (.map #[] 0)).alloc (.cells #[Az x,.slice none 0 0,.map (some w.heap.size)] 159));have o:η w E:=by
  have A:η w (w.alloc (.map #[] 0)):=(Below.refl _ _).alloc (Ad _) _;rw[i];exact A.alloc A.size _
 have t:FB E w.heap.size (w.heap.size+1) w.heap.size x [] [] (.slice none 0 0):=by
  refine⟨i▸Aaj w _ _ _,World.ownsRow_nil _ _ _ _,?_,O,Ad _,(λa=>nomatch a),UE,(λZ Q=>nomatch Q),Ad _⟩;rw[i];exact(χ _ _ Θ).trans (heap_alloc_new _ _)
 have y:=Aa t;have v:=Aa o;have n:=Aa (ZC (h.below o));have z:=Aa i;by_cases f:s.ws 9=0
 ·have e:Hid (DZ s=some ([],[])):=Aa (by unfold DZ;rw[if_pos f]);have t0:(((s.ws 9).toNat:Int)!=0)=false:=by rw[f];rfl
  clear h t o i f;go_enter func63,ntmps63
  go_wp2_with fail
  refine j.out.mono ?_;rintro a X⟨rfl,rfl⟩;clear j
  go_wp2_with fail
  rw[<-z.out];refine n.out.mono ?_;rintro a G⟨rfl,c⟩;have k:=Aa (τ v.out c);have J:=Aa (y.out.below c);clear c n
  go_wp2_with fail
  go_ret2;refine⟨k.out,?_⟩;rw[e.out];exact⟨_,_,_,rfl,J.out⟩
 ·have e:Hid (DZ s=Eb s 34 (s.ws 9) [] ([],[])):=Aa (by unfold DZ;rw[if_neg f]);have t0:(((s.ws 9).toNat:Int)!=0)=true:=by
   rw[bne_iff_ne];intro a;exact f (DK.1 (by simp;omega))
  clear h t o i f;go_enter func63,ntmps63
  go_wp2_with fail
  refine j.out.mono ?_;rintro a X⟨rfl,rfl⟩;clear j
  go_wp2_with fail
  rw[<-z.out];refine n.out.mono ?_;rintro a G⟨rfl,c⟩;have k:=Aa (τ v.out c);have b:=Aa (iO M S R 34 G (s.ws 9) [] none 0 [] [] _ (I.out.below k.out) (y.out.below c) (Pm.nil _) (Ad _) U U);clear c n;simp only[List.length_nil]at b;cases g:Eb s 34 (s.ws 9) [] ([],[])with
  |none=>
   have r:Hid (DZ s=none):=Aa (by rw[e.out,g]);rw[g]at b;clear g e
   go_wp2_with fail
   refine b.out.mono ?_;rintro a H⟨l,u,m⟩;replace m:a=.returned (.int .i64 5):=m;subst m;have q:=Aa (k.out.trans l);clear l u b
   go_wp2_with fail
   go_ret2;refine⟨q.out,?_⟩;rw[r.out];rfl
  |some T=>
   obtain⟨C,D⟩:=T;have r:Hid (DZ s=some (C,D)):=Aa (by rw[e.out,g]);rw[g]at b;clear g e
   go_wp2_with fail
   refine b.out.mono ?_;rintro a H⟨l,u,m⟩;obtain⟨N,aa,B⟩:=(m:a=.returned (.int .i64 0)/\∃W,FB H w.heap.size (w.heap.size+1) w.heap.size x C D W);subst N;have q:=Aa (k.out.trans l);have V:=Aa B;clear l u b B
   go_wp2_with fail
   go_ret2;refine⟨q.out,?_⟩;rw[r.out];exact⟨_,_,_,rfl,V.out⟩
def Ak3(s:St)(w:World)(e:Ending)(w':World):Prop:=
 η w w'/\match DZ s with
  |none=>e=.returned (.tuple #[.slice none 0 0,.int .i64 5])
  |some (items,_)=>∃a,e=.returned (.tuple #[a,.int .i64 0])/\Aa1 w' w.heap.size a items/\items.length<=65537
def Tf(h:IU len w x d p L s F):Calls prog 34 #[Az x] w (Ak3 s w):=by
 have e:=Aa (V5 h);cases g:DZ s with
 |none=>
  have b:=Aa g;clear h g;go_enter func34,ntmps34
  go_wp2_with fail
  refine e.out.mono ?_;rintro j o⟨c,a⟩;rw[b.out]at a;replace a:j=.returned (.tuple #[.pointer none,.int .i64 5]):=a;subst a;have i:=Aa c;clear c e
  go_wp2_with fail
  go_ret2;refine⟨i.out,?_⟩;rw[b.out];rfl
 |some m=>
  obtain⟨r,t⟩:=m;have b:=Aa g;clear h g;go_enter func34,ntmps34
  go_wp2_with fail
  refine e.out.mono ?_;rintro j o⟨c,a⟩;rw[b.out]at a;obtain⟨sb,mb,n,rfl,f⟩:=a;have q:=f.box.cell 1;simp only[AB,Ag]at q;have i:=Aa c;have l:=Aa f.row;have k:=Aa f.few;clear c e f
  go_wp2_with fail
  go_ret2;refine⟨i.out,?_⟩;rw[b.out];exact⟨n,rfl,l.out,k.out⟩
end
def itC(i:It):List Value:=[.string i.k,.int .u64 (i.v.toNat:Int)]
def lC(l:List It):List Value:=(l.map itC).flatten
def rM:∀(l:List It)(k:Nat)(h:k<l.length),(lC l)[2*k]?=some (.string l[k].k)/\(lC l)[2*k+1]?=some (.int .u64 (l[k].v.toNat:Int))
 |b::a,0,_=>by simp[lC,itC]
 |b::a,k+1,h=>by
  obtain⟨d,e⟩:=rM a k (by simpa using h);have c:lC (b::a)=itC b++lC a:=rfl;rw[c];constructor
  ·rw[Eg (by simp[itC];omega)];simpa[itC,show 2*(k+1) -2=2*k by omega]using d
  ·rw[Eg (by simp[itC];omega)];simpa[itC,show 2*(k+1)+1-2=2*k+1 by omega]using e
def ItR(w:World)(A:Option Addr)(l:List It):Prop:=Rd w A (2*l.length) (lC l)
def ItR.at{w:World}{A:Option Addr}{l:List It}(h:ItR w A l)(k:Nat)(i:k<l.length):∃a b,A=some (Δ a b)/\a<w.heap.size/\w.cell? (Δ a (b+k*2))=some (.string l[k].k)/\w.cell? (Δ a (b+k*2+1))=some (.int .u64 (l[k].v.toNat:Int)):=by
 obtain⟨a,b,d,g,c⟩:=h.2 O;obtain⟨e,f⟩:=rM l k i;refine⟨a,b,d,g,?_,?_⟩
 ·rw[Hq,c (2*k) O,e]
 ·rw[Hq,Nat.add_assoc,c (2*k+1) O,f]
def Ak4(p:List UInt8×UInt64):It:=⟨⟨p.1.toArray⟩,p.2⟩
def Aou(l:List (List UInt8×UInt64)):(l.map itV).flatten=lC (l.map Ak4):=by
 unfold lC;rw[Io];rfl
def Aa2{w:World}{base k n:Nat}{e:TypeId}{v:Value}{xs:List Value}(h:w.ownsRow base e k v n xs):∃b c,v=.slice b n c/\n<=c/\Rd w b (n*k) xs:=by
 rcases h.2 with⟨a,f⟩|⟨d,o,i,a,f,g,j,p,q,l⟩
 ·subst f;exact⟨none,0,a,Ad _,h.1,λm=>O⟩
 ·refine⟨_,_,a,j,h.1,λm=>⟨d,0,rfl,(Array.getElem?_eq_some_iff.1 g).1,λs r=>?_⟩⟩;rw[cell_of_row w d _ i _ (0,0) g,<-l,List.getElem?_take,if_pos O];simp
def Ak5{w:World}{base:Nat}{v:Value}{l:List It}(h:w.ownsRow base 103 2 v l.length (lC l)):∃a b,v=.slice a l.length b/\l.length<=b/\ItR w a l:=by
 obtain⟨a,b,c,d,e⟩:=Aa2 h;exact⟨a,b,c,d,by unfold ItR;rw[Hq];exact e⟩
section
variable{w w':World}{x d p L:Nat}{s:St}{F:Nat->Prop}
def Ahr(s:St):Option (List It):=(DZ s).map λa=>a.1.map Ak4
end
def Ahs{a b c d:UInt8}(g:a.toNat<16)(i:b.toNat<16)(j:c.toNat<16)(k:d.toNat<16):(a*16+b<c*16+d)<->(a<c\/(a=c/\b<d)):=by
 have e:(a*16+b).toNat=a.toNat*16+b.toNat:=by
  simp only[UInt8.toNat_add,UInt8.toNat_mul];have:(16:UInt8).toNat=16:=rfl;rw[this];omega
 have f:(c*16+d).toNat=c.toNat*16+d.toNat:=by
  simp only[UInt8.toNat_add,UInt8.toNat_mul];have:(16:UInt8).toNat=16:=rfl;rw[this];omega
 rw[UInt8.lt_iff_toNat_lt,UInt8.lt_iff_toNat_lt,UInt8.lt_iff_toNat_lt,e,f,<-UInt8.toNat_inj];omega
def Aht{a b c d:UInt8}(g:a.toNat<16)(i:b.toNat<16)(j:c.toNat<16)(k:d.toNat<16):(a*16+b=c*16+d)<->(a=c/\b=d):=by
 constructor
 ·intro h;have e:=YF a b g i;have f:=YF c d j k;rw[h]at e;exact⟨e.1.symm.trans f.1,e.2.symm.trans f.2⟩
 ·rintro⟨rfl,rfl⟩;rfl
def aI:∀(a b:List UInt8),a.length%2=0->b.length%2=0->a.all D6=true->b.all D6=true->Op.bytesLess (pairs a) (pairs b)=Op.bytesLess a b
 |[],[],_,_,_,_=>rfl
 |[],[_],_,h,_,_=>by simp at h
 |[],_::_::_,_,_,_,_=>by simp[pairs,Op.bytesLess]
 |[_],_,h,_,_,_=>by simp at h
 |_::_::_,[],_,_,_,_=>by simp[pairs,Op.bytesLess]
 |_::_::_,[_],_,h,_,_=>by simp at h
 |x::r::a,s::q::b,n,o,d,e=>by
  simp only[List.all_cons,Bool.and_eq_true]at d e;have g:x.toNat<16:=by simpa[D6]using d.1
  have i:r.toNat<16:=by simpa[D6]using d.2.1
  have j:s.toNat<16:=by simpa[D6]using e.1
  have k:q.toNat<16:=by simpa[D6]using e.2.1
  have p:=aI a b (by simp only[BD]at n;omega) (by simp only[BD]at o;omega) d.2.2 e.2.2;have l:=Ahs g i j k;have m:=Aht g i j k;rw[Bool.eq_iff_iff];simp only[pairs,Op.bytesLess,p,Bool.or_eq_true,Bool.and_eq_true,decide_eq_true_eq,beq_iff_eq,l,m];constructor
  ·rintro((h|⟨h,c⟩)|⟨⟨h,c⟩,f⟩)
   ·exact .inl h
   ·exact .inr ⟨h,.inl c⟩
   ·exact .inr ⟨h,.inr ⟨c,f⟩⟩
  ·rintro(h|⟨h,c|⟨c,f⟩⟩)
   ·exact .inl (.inl h)
   ·exact .inl (.inr ⟨h,c⟩)
   ·exact .inr ⟨⟨h,c⟩,f⟩
def JS{g:Type} [DecidableEq g]:∀(c a:List g),c.Nodup->(∀x∈c,x∈a)->c.length<=a.length
 |[],_,_,_=>by simp
 |b::n,a,l,e=>by
  obtain⟨j,k⟩:=H9.1 l;have d:=e b (BA ..);have m:=JS n (a.erase b) k (λx f=>(List.mem_erase_of_ne (λi:x=b=>j (by rw[<-i];exact f))).2 (e x (BO _ f)));rw[List.length_erase_of_mem d]at m;have:=List.length_pos_of_mem d;rw[BD];omega
section
variable{X:Nat->Prop}{L:Nat}{s:St}{items:List Kv}
def IW.up(h:IW X L s items):yC items:=by
 rcases h.tree with⟨_,b,_⟩|⟨_,_,a,_⟩
 ·rw[b];exact List.Pairwise.nil
 ·exact a.up h.ok
def S9{k:List UInt8}(h:J8 k=true):k.length%2=0/\k.all D6=true:=by
 unfold J8 at h;rw[Bool.and_eq_true,decide_eq_true_eq]at h;exact h
def dY(a:Kv):It:=Ak4 (pairs a.1,a.2)
def yH(l:List UInt8):(⟨l.toArray⟩:ByteArray).toList=l:=by rw[ByteArray.toList_eq]
def rO(a:Kv):(dY a).k.toList=pairs a.1:=yH _
def Aov(h:IW X L s items):Ahr s=some (items.map dY):=by
 obtain⟨b,a,_⟩:=Sz h;unfold Ahr;rw[a];simp only[Option.map_some,Io];rfl
def Aow(h:IW X L s items):Up (items.map dY):=by
 unfold Up;rw[List.pairwise_map];refine h.up.imp_of_mem λ{a b}g j i=>?_
 obtain⟨c,d⟩:=S9 (h.even a g);obtain⟨e,f⟩:=S9 (h.even b j);unfold Agw;rw[rO,rO,aI _ _ c e d f];exact i
def Aox{sh:Sh}(j:L<=1024)(n:shapeOf L=some sh):Av2 L (st0 sh) []:=by
 have m:=IL n;have e:∀a,GU (st0 sh) a=0:=λa=>by
  unfold GU st0;simp only[Bo,IG];split<;>rfl
 have g:∀a,hdN (st0 sh) a=0:=λa=>by
  unfold hdN st0;simp only[Bo,IG];split<;>rfl
 have i:∀a,8<=a->(st0 sh).ws a=0:=λa o=>by
  show BK (λ_=>0) 0 (wordsOf sh) a=0;unfold BK;rw[if_neg];simp[wordsOf,headW];omega
 have l:∀c d,¬AO (st0 sh) c d:=λc d=>by
  rintro⟨a,f,_,b,_⟩;rw[e,FC]at b;cases b
 refine⟨⟨m,j,by simp[st0],by simp[st0],λa _=>.inl (e a),λa _=>.inl (g a),λa _=>.inl (e a),λa f _ b=>?_,λa _=>?_⟩,λc d=>?_,.inl ⟨i 9 U,rfl,λc=>⟨λ⟨d,k⟩=>l c d k,λh=>h.elim⟩⟩,λ_ h=>by cases h⟩
 ·rw[e,FC]at b;cases b
 ·rw[i _ O];show _=(List.replicate sh.BQ (0:UInt64)).getD a 0;simp only[Bo,IG];split<;>rfl
 ·rintro⟨a,f,_,b,_⟩;rw[g,FC]at b;cases b
end
inductive Dh(s:St):UInt64->List Lk->Prop
 |nil:Dh s 0 []
 |cons(o:Nat)(r:Rc)(l:List Lk):AO s o 1->DN r=true->wordsAt s.ws (o/8) 8=CW r->Dh s r.next l->(∀k∈l,k.rc.stamp.toNat<r.stamp.toNat)->Dh s (Aj o) (⟨o,r⟩::l)
def Dz(l:List Lk):List Nat:=l.map (·.off.toNat)
section
variable{L:Nat}{s s':St}
def chain_nil{l:List Lk}(h:Dh s 0 l)(a:Bq L s):l=[]:=by
 generalize c:(0:UInt64)=j at h;cases h with
 |nil=>rfl
 |cons g i l b _ _ _ _=>
  exfalso;have f:=b.bounds a;have d:=a.sh.KT;have e:=a.L1;have:=congrArg UInt64.toNat c;rw[Dt O]at this;simp at this;omega
def aJ{v:UInt64}{l:List Lk}(h:Dh s v l)(a:v≠0):l≠[]:=by
 cases h with
 |nil=>exact absurd rfl a
 |cons=>simp
def Dh.keep{v:UInt64}{l:List Lk}(h:Dh s v l){B:Nat->Prop}(k:DI s s' B)(a:∀o∈Dz l,B o):Dh s' v l:=by
 induction h with
 |nil=>exact .nil
 |cons o r l i f j _ g m=>
  obtain⟨b,d⟩:=k o 1 (a o (BA ..)) i;refine .cons o r l b f ?_ (m (λp e=>a p (BO _ e))) g;have:=U0 (o:=o) (c:=1) d;rw[show 8*Bf 1=8 from rfl]at this;rw[this,j]
def Dh.nodup{v:UInt64}{l:List Lk}(h:Dh s v l):(Dz l).Nodup/\∀k∈l,wordsAt s.ws (k.off.toNat/8) 8=CW k.rc/\DN k.rc=true:=by
 induction h with
 |nil=>exact⟨UE,λ_ h=>nomatch h⟩
 |cons o r l p c d _ n b=>
  refine⟨H9.2 ⟨λm=>?_,b.1⟩,λk a=>?_⟩
  ·obtain⟨k,a,e⟩:=BM.1 m;obtain⟨i,j⟩:=b.2 k a;have f:CW k.rc=CW r:=by
    rw[<-i,<-d];have:k.off.toNat=o:=e;rw[this]
   have g:k.rc=r:=by rw[<-Ue k.rc j,f,Ue r c]
   have:=n k a;rw[g]at this;omega
  ·rcases List.mem_cons.1 a with rfl|a
   ·exact⟨d,c⟩
   ·exact b.2 k a
def Dh.list(c:Bq L s){v:UInt64}{l:List Lk}(h:Dh s v l):∀(f:Nat)(a:List Lk),l.length<f->(∀k∈l,k.rc.stamp.toNat<EL a)->OZ s f v a=some (a++l):=by
 induction h with
 |nil=>
  intro f a b _;cases f with
  |zero=>exact absurd b (Ajc _)
  |succ f=>unfold OZ;rw[if_pos U,List.append_nil]
 |cons o r l d i n _ j p=>
  intro f a b m;have w:=d.bounds c;have q:=c.sh.KT;have t:=c.L1;cases f with
  |zero=>exact absurd b (Ajc _)
  |succ f=>
   unfold OZ;rw[if_neg (by rw[Dt O];omega),Jq O,d.class c,if_neg Θ,Int.toNat_natCast,n,Abu r i];simp only;have u:r.stamp.toNat<EL a:=m _ (BA ..);have e:=p f (a++([⟨(o:Int),r⟩]:List Lk)) (by simpa using b) (λk g=>by
    have:=j k g;unfold EL;rw[List.getLast?_append,List.getLast?_singleton,Option.some_or];exact this)
   rw[if_neg O,e,List.append_assoc];rfl
end
section
variable{X:Nat->Prop}{L:Nat}{s:St}{items:List Kv}
def IW.congr{a:Nat->Prop}(h:IW X L s items)(e:∀o,X o<->a o):IW a L s items:=by
 have:X=a:=funext λo=>propext (e o)
 exact this▸h
def Ahu(h:IW X L s items)(r:Rc)(an:DN r=true):
 Iq s r=(s,0,6)\/∃l a,Iq s r=(l,Aj a,0)/\(∀b e,CP s 1=some (b,e)->(GV {e with ws:=BK e.ws (b/8) (CW r)} b).2=0)/\¬(∃d,AO s a d)/\¬X a/\a<=65536/\0<a/\AO l a 1/\wordsAt l.ws (a/8) 8=CW r/\
  IW (λp=>X p\/p=a) L l items/\DI s l (λ_=>True)/\l.sh=s.sh/\∀g,g<16->l.ws g=s.ws g:=by
 unfold Iq;rw[if_neg (by rw[an];simp)];cases ao:CP s 1 with
 |none=>exact .inl rfl
 |some p=>
  obtain⟨b,e⟩:=p;right;obtain⟨F,R,Y,av,K,_,al,ar⟩:=MB h.ok (.inl rfl) ao;have J:=K.bounds F;have aE:=F.sh.KT;have aw:=h.ok.L1;have N:=I4 r;have aB:Bf 1=1:=rfl;have D:∀c,¬Ho b 1 c->BK e.ws (b/8) (CW r) c=e.ws c:=λc n=>by
   unfold BK;rw[if_neg];intro h;exact n ⟨h.1,by rw[N]at h;omega⟩
  have P:∀c,c<16+e.sh.BQ->¬Ho b 1 c:=λc n h=>by
   unfold Ho at h;omega
  obtain⟨o,j⟩:∃o,o=({e with ws:=BK e.ws (b/8) (CW r)}:St):=⟨_,rfl⟩;have m:Bq L o:=j▸F.words (λc n=>D _ (P _ O));have G:Eo o b 1:=by rw[j];exact K
  obtain⟨y,B,T,ap,E,u,W⟩:=lh m G;have V:o.sh=e.sh:=by rw[j]
  have x:∀a d,AO o a d<->AO s a d:=λa d=>by rw[j];exact ar a d
  have M:DI s y (λ_=>True):=λa H _ aq=>by
   have z:=(x a H).2 aq;obtain⟨aD,af⟩:=Me m G z;have S:=z.bounds m;refine⟨(u a H).2 (.inl z),λc n=>?_⟩;rw[E c (.inr (m.Dy S.1 n)),j];show BK e.ws (b/8) (CW r) c=_;rw[D c (λh=>Nl af J.2.2 S.2.2 h n),R]
  have C:¬∃d,AO s b d:=λ⟨d,q⟩=>(Me m G ((x b d).2 q)).1 rfl
  have w:∀g,g<16->y.ws g=s.ws g:=λg am=>by
   rw[E g (.inl am),j];show BK e.ws (b/8) (CW r) g=_;rw[D g (P g O),R]
  have Q:∀a,(∃d,AO y a d)<->(∃d,AO s a d)\/a=b:=λa=>by
   constructor
   ·rintro⟨d,q⟩;rcases(u a d).1 q with f|⟨f,_⟩
    ·exact .inl ⟨d,(x a d).1 f⟩
    ·exact .inr f
   ·rintro(⟨d,q⟩|rfl)
    ·exact⟨d,(u a d).2 (.inl ((x a d).2 q))⟩
    ·exact⟨1,(u _ _).2 (.inr ⟨rfl,rfl⟩)⟩
  have ad:∀a,X a->∃d,AO s a d:=λa t=>by
   rcases h.tree with⟨_,_,i⟩|⟨_,_,_,_,_,i⟩
   ·exact(i a).2 t
   ·exact(i a).2 (.inr t)
  rw[j]at B;refine⟨y,b,by simp only[B,if_true],λaG t2 A=>?_,C,λv=>C (ad b v),O,O,(u _ _).2 (.inr ⟨rfl,rfl⟩),?_,⟨T,λa d ah=>?_,?_,h.even⟩,M,by rw[ap,V,Y],w⟩
  ·injection A with A
   injection A with aa ab
   subst aa;subst ab;rw[B]
  ·refine List.ext_getElem (by simp[wordsAt,N]) λc f k=>?_
   have az:c<8:=by simpa[wordsAt]using f
   rw[Gf,E _ (.inr (m.Dy (by rw[V];exact J.1) (c:=1) ⟨O,O⟩)),j];show BK e.ws (b/8) (CW r) (b/8+c)=_;unfold BK;rw[if_pos ⟨O,O⟩,Nat.add_sub_cancel_left,Bo,Ae k];rfl
  ·obtain⟨f,k⟩:=(W a d).1 ah;rw[j]at f;rcases al a d f with i|i
   ·exact h.nh a d i
   ·exact k i
  ·rcases h.tree with⟨f,k,i⟩|⟨Z,f,k,i,ac,I⟩
   ·exact .inl ⟨by rw[w 9 U,f],k,λa=>by rw[Q a,i a]⟩
   ·refine .inr ⟨Z,by rw[w 9 U];exact f,by rw[w 9 U];exact k.keep h.ok T M (λ_ _=>trivial),i,λa t v=>?_,λa=>by rw[Q a,I a,or_assoc]⟩;rcases v with v|rfl
    ·exact ac a t v
    ·exact C ((I _).2 (.inl t))
def lD(h:IW X L s items){o:Nat}(n:X o):∃a,Fj s o=(a,0)/\IW (λp=>X p/\p≠o) L a items/\DI s a (λp=>p≠o)/\a.sh=s.sh/\∀f,f<16->a.ws f=s.ws f:=by
 have D:∃d,AO s o d:=by
  rcases h.tree with⟨_,_,e⟩|⟨_,_,_,_,_,e⟩
  ·exact(e o).2 n
  ·exact(e o).2 (.inr n)
 obtain⟨I,G⟩:=D;obtain⟨a,B,y,z,E,g,q⟩:=Vz h.ok G;have u:DI s a (λp=>p≠o):=λp d j w=>⟨(q p d).2 ⟨w,j⟩,λf m=>g f (.inr (h.ok.Dy (w.bounds h.ok).1 m))⟩
 have x:∀p,(∃d,AO a p d)<->(∃d,AO s p d)/\p≠o:=λp=>by
  constructor
  ·rintro⟨d,l⟩;obtain⟨i,c⟩:=(q p d).1 l;exact⟨⟨d,i⟩,c⟩
  ·rintro⟨⟨d,l⟩,c⟩;exact⟨d,(q p d).2 ⟨l,c⟩⟩
 refine⟨a,B,⟨y,λp d F=>h.nh p d ((Oc E z p d).1 F),?_,h.even⟩,u,z,λf m=>g f (.inl m)⟩;rcases h.tree with⟨i,c,e⟩|⟨r,i,c,e,t,C⟩
 ·exact .inl ⟨by rw[g 9 (.inl U),i],c,λp=>by rw[x p,e p]⟩
 ·have v:∀p∈r,p≠o:=λp j A=>t p j (A▸n)
  refine .inr ⟨r,by rw[g 9 (.inl U)];exact i,by rw[g 9 (.inl U)];exact c.keep h.ok y u v,e,λp j H=>t p j H.1,λp=>?_⟩;rw[x p,C p];constructor
  ·rintro⟨b|b,k⟩
   ·exact .inl b
   ·exact .inr ⟨b,k⟩
  ·rintro(b|⟨b,k⟩)
   ·exact⟨.inl b,v p b⟩
   ·exact⟨.inr b,k⟩
end
def Ahv{len:Mode}{w:World}{x d p L:Nat}{s:St}{F:Nat->Prop}(h:IU len w x d p L s F):Calls prog 34 #[Az x] w λj w'=>η w w'/\match Ahr s with
 |none=>j=.returned (.tuple #[.slice none 0 0,.int .i64 5])
 |some i=>∃a c,j=.returned (.tuple #[.slice a i.length c,.int .i64 0])/\i.length<=c/\ItR w' a i/\i.length<=65537/\∀e,a=some e->w.heap.size<=e.block:=by
 refine(Tf h).mono ?_;rintro j I⟨r,g⟩;refine⟨r,?_⟩;unfold Ahr;cases m:DZ s with
 |none=>rw[m]at g;exact g
 |some B=>
  obtain⟨n,H⟩:=B;rw[m]at g;obtain⟨C,u,f,v⟩:=g;unfold Aa1 at f;rw[Aou,show n.length=(n.map Ak4).length by simp]at f;have y:∀a o c,C=.slice a o c->∀e,a=some e->w.heap.size<=e.block:=λa o c b e l=>by
   rcases f.2 with⟨k,_⟩|⟨G,D,E,k,q,_⟩
   ·rw[k,l]at b;cases b
   ·rw[k,l]at b;injection b with b
    injection b with b
    rw[<-b];exact q
  obtain⟨a,c,A,t,z⟩:=Ak5 f;subst A;exact⟨a,c,u,t,z,by simpa using v,y _ _ _ rfl⟩
def iP{w:World}{base base' k n:Nat}{e:TypeId}{v:Value}{xs:List Value}(h:w.ownsRow base e k v n xs)(i:base'<=base):w.ownsRow base' e k v n xs:=
 ⟨h.1,h.2.imp id (λ⟨c,a,b,d,f,g⟩=>⟨c,a,b,d,Bi i f,g⟩)⟩
