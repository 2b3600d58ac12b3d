import Derived.Shelf.SlIterI.Nil
import Derived.Shelf.SortM.Plain
import Derived.Shelf.SortM.SortNone
import Derived.Test.YtekhjimghoibfaaGreatDoorI24
set_option linter.defProp false
set_option maxHeartbeats 32000000
set_option maxRecDepth 100000
open Array renaming replicate->Afi
open Go.Lib renaming hid->Aa
open Nat renaming zero_le->BB,le_trans->Bi
open List renaming getElem_mem->BH,getElem_toArray->Aq,getElem_cons_zero->Ah,setIfInBounds_toArray->Af,set_cons_zero->Ap,set_cons_succ->Au,getElem_cons_succ->Am,take_append_drop->GZ,nil_append->EX
open Go.World renaming cell?_of_block->Bh
open Go.Value renaming ownBlock->Ba
namespace Go.Proofs.YtekhjimghoibfaaGreatDoor
open Go.Proofs.Tryz
section
section
variable{P:Program}{ops:Array Oper}{Q:Exit->Act->World->Prop}{n l0:Nat}
def XN(Q:Exit->Act->World->Prop):Exit->Act->World->Prop:=λa b w=>a≠.outgrown/\Q a b w
def XN.not:¬LetsOut (XN Q):=λ⟨_,_,h,_⟩=>h rfl
def bn{o:Oper}{a:Act}{K f:Act->World->Prop}(b:∀a w,K a w->f a w){r:Result Next}(h:o.upon P a K (XN Q) r):o.uponIn (Fence.wide.inRound l0) n P a f Q r:=by
 cases r with
 |ok x w'=>
  cases x with
  |value v=>exact b _ _ h
  |skip=>exact b _ _ h
  |defer d=>exact b _ _ h
  |enter l c=>
   refine⟨λh=>(by cases h),CallsIn.inRound l0 ((callsIn_wide.2 (show Calls P l c w' _ from h)).mono ?_)⟩;intro k i e;cases k with
   |returned v=>exact b _ _ e
   |panicked g=>exact e.2
   |outgrown=>exact(XN.not e).elim
  |row row c=>exact⟨λh=>(by cases h),λg j _=>let⟨v,i,m,s⟩:=(show Rows P row c w' _ from h) g j;⟨v,i,b _ _ m,stepsIn_wide.2 s⟩⟩
  |_=>exact h.elim
 |halt x w'=>
  cases x with
  |panic v=>exact h.2
  |_=>exact h.elim
def J7(b:∀e∈ops,∀g,e.op≠.defer g):∀(l:List Nat)(a:Act)(w:World),wpOps P ops (XN Q) l a w->wpOpsIn (Fence.wide.inRound l0) n P ops Q l a w
 |[],_,_,h=>h.2
 |i::f,a,w,h=>by
  unfold wpOps at h;unfold wpOpsIn;cases c:ops[i]? with
  |none=>rw[c]at h;exact J7 b f _ _ h
  |some e=>
   rw[c]at h;simp only at h⊢;split at h
   ·rename_i d;rw[if_pos d];rcases h with h|⟨_,h⟩
    ·refine⟨λ_ _=>trivial,?_⟩;rw[show(Fence.wide.inRound l0).round=some l0 from rfl,Oper.semAt_some l0 _ _ (b e (Array.mem_of_getElem? c))];exact bn (J7 b f) h
    ·exact(XN.not h).elim
   ·rename_i d;rw[if_neg d];exact⟨λ_ _=>trivial,J7 b f _ _ h⟩
def lT(ops:Array Oper):Bool:=ops.all λa=>match a.op with| .defer _=>false|_=>true
def lU(h:lT ops=true):∀a∈ops,∀b,a.op≠.defer b:=λa d b c=>by
 have:=Array.all_eq_true_iff_forall_mem.1 h a d;rw[c]at this;cases this
def VE{S:World->Prop}{id:Nat}{a:Act}{w:World}(c:P.follows .mixedOrders=true)(b:lT ops=true)
 (h:wpAnyH P .any ops (XN Q) S ops.size (Afi ops.size false) a {w with drawn:=w.drawn+1}):(Code.region id ops true).wpIn (Fence.wide.inRound l0) n P Q a w:=
 wpIn_region_draw λd=>by
  simp only[Region.schedule,c,Bool.true_or,if_true];exact J7 (lU b) _ _ _ (wpAny_sound ops.size d _ a _ (wpAny_of_held _ _ _ _ h))
def Ld{S:World->Prop}{id:Nat}{a:Act}{w:World}(d:P.follows .mixedOrders=true)(c:lT ops=true)(b:S w.drew)
 (h:S w.drew->wpAnyH P .any ops (XN Q) S ops.size (Afi ops.size false) a w.drew):(Code.region id ops true).wpIn (Fence.wide.inRound l0) n P Q a w:=
 VE d c (h b)
end
open Go.RowKit
def tku{P:Program}{ops:Array Oper}{Q:Exit->Act->World->Prop}{md:Region.Mode}{S:World->Prop}(i:Nat){d:Oper}{fuel:Nat}{c:Array Bool}{a:Act}{w:World}(g:S w)(h:wpAnyH P md ops Q S fuel (c.setIfInBounds i true) (a.put d.dst undef) w)(hi:ops[i]?=some d:=by rfl)
 (b:(Region.noSelect ops&&(Region.free md ops c i&&(Region.ready md ops c).contains i))=true:=by kernel_rfl)(f:∀e a w,Q (.panic e) (a.put d.dst undef) w->Q (.panic e) a w:=by exact λ_ _ _ h=>h)(j:Region.wanted d (yielded ops a.tmps)=false:=by rfl):wpAnyH P md ops Q S (fuel+1) c a w:=by
 rw[Bool.and_eq_true,Bool.and_eq_true]at b;exact wpAnyH_take hi b.1 b.2.1 b.2.2 f (.inr ⟨j,rfl⟩) g h
def Alj{w:World}{G:Nat->Prop}{v:Value}{l:List Wr}(h:H7 w G v l)(j:∀c∈l,Dx c=true)(Y:VQ l)(a4:l.length<=16):Calls prog 46 #[v] w λE w'=>E=.returned (.bool true)/\η w w':=by
 obtain⟨aG,ap,rfl⟩:=h.slice;have R:=Aa h;have am:=Aa j;have an:=Aa Y;clear h j Y;have t1:decide ((16:Int)<(l.length:Int))=false:=decide_eq_false O;go_enter func46,ntmps46
 go_wp2_with fail
 go_loopw [10](λJ wr=>∃b:Nat,b<=l.length/\J=.int .i64 (b:Nat)/\η w wr)(λJ _=>l.length-(intOf J).toNat)
 case atStart=>exact⟨0,BB _,rfl,Below.refl _ _⟩
 case round=>
  obtain⟨b,a3,rfl,U⟩:=hrel;have s:=Aa U;clear U;by_cases q:b<l.length
  ·obtain⟨k,m,a0,Z,_,aq,_,aB,aD,aE⟩:=(R.out.below s.out).at b q;simp only[Value.slice.injEq]at Z;obtain⟨rfl,-,rfl⟩:=Z;obtain⟨ar,a8,av⟩:=YB q;have a6:=jh b O;obtain⟨c,x⟩:=ε (l[b]);have j:=am.out c (x▸BH q);have P:c.key.size<=4294967296/\c.text.size<=4294967296:=by
    unfold Dx at j;simp only[Bool.and_eq_true,decide_eq_true_eq]at j;omega
   have ao:=Aa x;rw[<-x]at aB aD aE;have t:=Aa (λe=>PO c e P.1 P.2);unfold VR at t;obtain⟨g,T,V,n⟩:=Fz wr 53 [.string c.key,.string c.text,.bool c.gone];obtain⟨y,z,A⟩:=n.p3;have Q:=Aa (τ s.out V);have u:Hid (∀e,η g e->e.cell? (Φ wr.heap.size)=some (.string c.key)/\e.cell? (Δ wr.heap.size 1)=some (.string c.text)/\e.cell? (Δ wr.heap.size 2)=some (.bool c.gone)):=Aa (λe b=>⟨(n.ξ b).cell 0,(n.ξ b).cell 1,(n.ξ b).cell 2⟩);have C:=Aa T;clear T n V x;rw[j]at t;clear j;by_cases W:b=0
   ·have aw:decide ((0:Int)<(b:Int))=false:=decide_eq_false O;have az:decide (0<b)=false:=decide_eq_false O;clear W
    go_wp2_with fail
    rw[<-C.out];refine wp_region_held_drew (S:=(λw'=>w'.cell? (Φ wr.heap.size)=some (.string c.key)/\w'.cell? (Δ wr.heap.size 1)=some (.string c.text)/\w'.cell? (Δ wr.heap.size 2)=some (.bool c.gone))) Γ ⟨y,z,A⟩ (λa=>?_);refine Fq 0 (.agg #[.string c.key,.string c.text,.bool c.gone]) a (hy:=λw i=>by obtain⟨K,L,M⟩:=i;go_simp) ?_
    try simp only[Act.put,Aq,Ah,Af,Ap,Au]
    refine wpAnyH_ready (rs:=[1]) Γ Θ ?_;refine AllReadyH.cons rfl (λD o=>?_) AllReadyH.nil;go_simp;go_at_call 42;refine(t.out _).mono ?_;rintro E N⟨rfl,p⟩;have f:η g N:=(((Dr.drew _).below _).trans p);refine o.out _ _ (u.out _ f) (λa=>?_);clear o D
    try simp only[Act.put,Aq,Am,Ah,Af,Ap,Au]
    refine Fq 2 (.bool false) a ?_;refine Fq 3 (.bool false) a ?_;refine Fq 4 (.int .i64 (b:Int)) a ?_
    try simp only[Act.put,Aq,Am,Ah,Af,Ap,Au]
    refine Fq 5 (.bool false) a ?_;refine Fq 6 (.bool false) a ?_;refine tku 7 a ?_
    try simp only[Act.put,Aq,Am,Ah,Af,Ap,Au]
    refine tku 8 a ?_;refine tku 9 a ?_;refine tku 10 a ?_
    try simp only[Act.put,Aq,Am,Ah,Af,Ap,Au]
    refine tku 11 a ?_;refine tku 12 a ?_;refine tku 13 a ?_
    try simp only[Act.put,Aq,Am,Ah,Af,Ap,Au]
    refine tku 14 a ?_;refine tku 15 a ?_;refine Fq 16 (.bool false) a ?_
    try simp only[Act.put,Aq,Am,Ah,Af,Ap,Au]
    refine Fq 17 (.bool false) a ?_
    try simp only[Act.put,Aq,Am,Ah,Af,Ap,Au]
    refine wpAnyH_done Γ ?_ _;have B:=Aa (τ Q.out f);clear p f y z A a
    go_wp2_with fail
    go_roundw
    case rel=>exact⟨b+1,O,by go_num,B.out⟩
    case measure=>simp[intOf];omega
   ·obtain⟨d,X⟩:∃d,b=d+1:=⟨b-1,O⟩;have ah:=Aa X;have F:d<l.length:=O;obtain⟨aR,aH,a1,aa,_,a2,_,ab,_,_⟩:=(R.out.below s.out).at d F;simp only[Value.slice.injEq,Option.some.injEq,Addr.mk.injEq,true_and,and_true]at aa;obtain⟨⟨rfl,rfl⟩,rfl⟩:=aa;obtain⟨r,I⟩:=ε (l[d]'F);rw[<-I]at ab;have H:g.cell? (Δ k (m+d*3))=some (.string r.key):=by rw[C.out];exact(Bh (w:=wr) (χ _ _ aq)).trans ab
    have al:Hid (∀e,η g e->e.cell? (Δ k (m+d*3))=some (.string r.key)):=Aa (λe b=>(Bh (w:=g) (b.block _ (World.block_lt_of_cell? g _ H))).trans H);have a5:Op.bytesLess r.key.toList c.key.toList=true:=by
     have ad:=ah.out;subst ad;rw[I,ao.out];exact an.out.lt F q (Nat.lt_succ_self d)
    have aw:decide ((0:Int)<(b:Int))=true:=decide_eq_true O;have az:decide (0<b)=true:=decide_eq_true O;have a7:IntKind.i64.wrap ((b:Int) -1)=(d:Int):=(IntWalk.i64_in _ O).trans O;have af:(d:Int)<(l.length:Int):=O;have aL:decide ((d:Int)<(l.length:Int))=true:=decide_eq_true af;have aM:decide (d<l.length)=true:=decide_eq_true O;clear X W I
    go_wp2_with fail
    rw[<-C.out];refine wp_region_held_drew (S:=(λw'=>w'.cell? (Φ wr.heap.size)=some (.string c.key)/\w'.cell? (Δ wr.heap.size 1)=some (.string c.text)/\w'.cell? (Δ wr.heap.size 2)=some (.bool c.gone)/\w'.cell? (Δ k (m+d*3))=some (.string r.key))) Γ ⟨y,z,A,H⟩ (λa=>?_);refine Fq 0 (.agg #[.string c.key,.string c.text,.bool c.gone]) a (hy:=λw i=>by obtain⟨K,L,M,ac⟩:=i;go_simp) ?_
    try simp only[Act.put,Aq,Ah,Af,Ap,Au]
    refine wpAnyH_ready (rs:=[1]) Γ Θ ?_;refine AllReadyH.cons rfl (λD o=>?_) AllReadyH.nil;go_simp;go_at_call 42;refine(t.out _).mono ?_;rintro E N⟨rfl,p⟩;have f:η g N:=(((Dr.drew _).below _).trans p);refine o.out _ _ (⟨(u.out _ f).1,(u.out _ f).2.1,(u.out _ f).2.2,al.out _ f⟩) (λa=>?_);clear o D
    try simp only[Act.put,Aq,Am,Ah,Af,Ap,Au]
    refine Fq 2 (.bool false) a ?_;refine Fq 3 (.bool false) a ?_;refine Fq 4 (.int .i64 (b:Int)) a ?_
    try simp only[Act.put,Aq,Am,Ah,Af,Ap,Au]
    refine Fq 5 (.bool true) a ?_;refine Fq 6 (.bool true) a ?_;refine Fq 7 (.slice (some (Δ k m)) l.length ap) a ?_
    try simp only[Act.put,Aq,Am,Ah,Af,Ap,Au]
    refine Fq 8 (.int .i64 (b:Int)) a ?_;refine Fq 9 (.int .i64 (d:Int)) a ?_;refine Fq 10 (.pointer (some (Δ k (m+d*3)))) a ?_
    try simp only[Act.put,Aq,Am,Ah,Af,Ap,Au]
    refine Fq 11 (.pointer (some (Δ k (m+d*3)))) a ?_;refine Fq 12 (.string r.key) a (hy:=λw i=>by obtain⟨K,L,M,ac⟩:=i;go_simp) ?_;refine Fq 13 (Az wr.heap.size) a ?_
    try simp only[Act.put,Aq,Am,Ah,Af,Ap,Au]
    refine Fq 14 (.string c.key) a (hy:=λw i=>by obtain⟨K,L,M,ac⟩:=i;go_simp) ?_;refine Fq 15 (.bool false) a ?_;refine Fq 16 (.bool false) a ?_
    try simp only[Act.put,Aq,Am,Ah,Af,Ap,Au]
    refine Fq 17 (.bool false) a ?_
    try simp only[Act.put,Aq,Am,Ah,Af,Ap,Au]
    refine wpAnyH_done Γ ?_ _;have B:=Aa (τ Q.out f);clear p f y z A a
    go_wp2_with fail
    go_roundw
    case rel=>exact⟨b+1,O,by go_num,B.out⟩
    case measure=>simp[intOf];omega
  ·obtain⟨ar,av⟩:=uH q
   go_wp2_with fail
   go_ret;exact⟨rfl,s.out⟩
section
variable{len:Mode}{w w':World}{x d p L:Nat}{s:St}{F:Nat->Prop}
def lV(h:Ej len w d p L s F){G:Nat->Prop}{v:Value}{l:List Wr}(j:H7 w G v l)(D:∀Y∈l,Dx Y=true)(H:VQ l)(C:l.length<=16){stamp:UInt64}(h1:(s.ws 8).toNat<stamp.toNat)(h2:stamp.toNat<=60000):
 Calls prog 22 #[Az d,Az p,Az x,.int .u64 (stamp.toNat:Int),v] w λb w'=>η w w'/\∃k J,b=.returned (.tuple #[Az k,.int .i64 0])/\
  w.heap.size<=k/\CQ w' k 126 (Es x d p stamp J (.slice none 0 0) false 0)/\∀G:Nat->Prop,(∀a,w.heap.size<=a->a<k->¬G a)->H7 w' G J l:=by
 have R:=h.pos.1;have t0:(((L*64:Nat):Int)==0)=false:=ζ O;have n:=Aa h.size;obtain⟨I,E⟩:∃I,L*64=I:=⟨_,rfl⟩;rw[E]at t0 n;have S:=h.pos.2.2.1.fits;have T:=h.pos.2.2.1.KT;have m:=Aa (h.load 8 O);rw[show((8*8:Nat):Int)=64 from rfl]at m;obtain⟨Z,aa,rfl⟩:=j.slice;have y:=Aa (Alj j D H C);have P:=Aa j;have M:Hid (l.length<=100000):=Aa O;have t1:decide ((stamp.toNat:Int)<=((s.ws 8).toNat:Int))=false:=decide_eq_false O;have t2:decide (stamp.toNat<=(s.ws 8).toNat)=false:=decide_eq_false O;have t3:decide ((60000:Int)<(stamp.toNat:Int))=false:=decide_eq_false O;have t4:decide (60000<stamp.toNat)=false:=decide_eq_false O;clear h j E R S T D H C h1 h2;go_enter func22,ntmps22
 go_wp2_with fail
 refine n.out.mono ?_;rintro b K⟨rfl,rfl⟩
 go_wp2_with fail
 refine m.out.mono ?_;rintro b K⟨rfl,rfl⟩
 go_wp2_with fail
 refine y.out.mono ?_;rintro b K⟨rfl,q⟩;have u:=Aa (PQ (P.out.below q) M.out);have t:=Aa q;clear q n m y
 go_wp2_with fail
 refine u.out.mono ?_;rintro b e⟨ab,rfl,o,A⟩;obtain⟨f,g,X,_,_⟩:=DR o;subst X;have N:=Aa o;have r:=Aa (τ t.out A);clear o A u
 go_wp2_with fail
 go_ret2;obtain⟨z,c⟩:=ε (e.alloc (.cells (Es x d p stamp (.slice f l.length g) (.slice none 0 0) false 0).toArray 126));have i:η e z:=c▸(Below.refl _ _).alloc (Nat.le_refl _) _;have B:CQ z e.heap.size 126 (Es x d p stamp (.slice f l.length g) (.slice none 0 0) false 0):=c▸heap_alloc_new _ _;refine⟨by rw[c]at i;exact τ r.out i,e.heap.size,.slice f l.length g,rfl,r.out.size,by rw[c]at B;exact B,λG Q=>?_⟩;have W:H7 e G (.slice f l.length g) l:=qf N.out rfl (λa U V=>Q a (Bi t.out.size U) V);rw[c]at i;exact W.below i
end
end
section
open Go.Shelf
def Tryz.keysA_ren:Go.Shelf.Ren:=⟨fun|7=>65|10=>112|n=>n,fun|23=>157|26=>3|3=>3|28=>155|0=>0|27=>154|33=>209|4=>4|n=>n,fun|n=>n⟩
def Tryz.keysA:Go.Proofs.SlLaysZI.n7 prog Tryz.keysA_ren:={
 mixed:=by kernel_rfl
 f7:=⟨Tryz.f65.name,by decide,func65.trans (congrArg some Γ)⟩
 f10:=⟨Tryz.f112.name,by decide,func112.trans (congrArg some Γ)⟩
 t0:=underlying0
 a0:=Tryz.isAgg0
 z0:=Tryz.sizeOf0
 v0:=Tryz.zeroValue0
 t4:=underlying4
 a4:=Tryz.isAgg4
 z4:=Tryz.sizeOf4
 v4:=Tryz.zeroValue4
 t23:=underlying157
 a23:=Tryz.isAgg157
 z23:=Tryz.sizeOf157
 v23:=Tryz.zeroValue157
 t26:=underlying3
 a26:=Tryz.isAgg3
 z26:=Tryz.sizeOf3
 v26:=Tryz.zeroValue3
 t27:=underlying154
 a27:=Tryz.isAgg154
 z27:=Tryz.sizeOf154
 v27:=Tryz.zeroValue154
 t28:=underlying155
 a28:=Tryz.isAgg155
 z28:=Tryz.sizeOf155
 v28:=Tryz.zeroValue155
 t33:=underlying209
 a33:=Tryz.isAgg209
 z33:=Tryz.sizeOf209
 v33:=Tryz.zeroValue209}
def Tryz.sortedA_ren:Go.Shelf.Ren:=⟨fun|6=>64|8=>111|9=>37|11=>153|13=>70|12=>69|23=>122|24=>123|14=>114|15=>115|16=>116|17=>117|18=>118|19=>119|20=>104|21=>120|22=>121|25=>155|26=>156|27=>157|28=>158|29=>159|30=>149|31=>181|n=>n,fun|26=>3|28=>155|24=>54|0=>0|3=>3|37=>165|48=>226|50=>43|4=>4|40=>220|39=>219|45=>117|5=>5|9=>9|51=>254|55=>257|57=>282|58=>283|33=>209|n=>n,fun|n=>n⟩
def Tryz.sortedA:Go.Proofs.SlLaysZI.n6 prog Tryz.sortedA_ren:={
 mixed:=by kernel_rfl
 f6:=⟨Tryz.f64.name,by decide,func64.trans (congrArg some Γ)⟩
 f8:=⟨Tryz.f111.name,by decide,func111.trans (congrArg some Γ)⟩
 f11:=⟨Tryz.f153.name,by decide,func153.trans (congrArg some Γ)⟩
 t0:=underlying0
 a0:=Tryz.isAgg0
 z0:=Tryz.sizeOf0
 v0:=Tryz.zeroValue0
 t24:=underlying54
 a24:=Tryz.isAgg54
 z24:=Tryz.sizeOf54
 v24:=Tryz.zeroValue54
 t26:=underlying3
 a26:=Tryz.isAgg3
 z26:=Tryz.sizeOf3
 v26:=Tryz.zeroValue3
 t28:=underlying155
 a28:=Tryz.isAgg155
 z28:=Tryz.sizeOf155
 v28:=Tryz.zeroValue155
 i26:=by kernel_rfl}
def Tryz.Aea:Go.Shelf.Ren:=⟨fun|5=>37|8=>70|7=>69|19=>122|20=>123|10=>114|11=>115|12=>116|13=>117|14=>118|15=>119|16=>104|17=>120|18=>121|30=>155|31=>156|32=>157|33=>158|34=>159|35=>149|40=>181|n=>n,fun|23=>54|25=>3|3=>3|32=>165|22=>54|0=>0|44=>226|46=>43|4=>4|36=>220|35=>219|41=>117|5=>5|9=>9|53=>254|57=>257|63=>282|64=>283|n=>n,fun|n=>n⟩
def Tryz.sortA:Go.Proofs.SlLaysM.n5 prog Tryz.Aea:={
 mixed:=by kernel_rfl
 f5:=⟨Tryz.f37.name,by decide,func37.trans (congrArg some Γ)⟩
 f7:=⟨Tryz.f69.name,by decide,func69.trans (congrArg some Γ)⟩
 f8:=func70.trans (congrArg some Γ)
 f10:=⟨Tryz.f114.name,by decide,func114.trans (congrArg some Γ)⟩
 f11:=⟨Tryz.f115.name,by decide,func115.trans (congrArg some Γ)⟩
 f12:=⟨Tryz.f116.name,by decide,func116.trans (congrArg some Γ)⟩
 f13:=⟨Tryz.f117.name,by decide,func117.trans (congrArg some Γ)⟩
 f14:=⟨Tryz.f118.name,by decide,func118.trans (congrArg some Γ)⟩
 f15:=⟨Tryz.f119.name,by decide,func119.trans (congrArg some Γ)⟩
 f16:=⟨Tryz.f104.name,by decide,func104.trans (congrArg some Γ)⟩
 f17:=⟨Tryz.f120.name,by decide,func120.trans (congrArg some Γ)⟩
 f18:=⟨Tryz.f121.name,by decide,func121.trans (congrArg some Γ)⟩
 f19:=func122.trans (congrArg some Γ)
 f20:=func123.trans (congrArg some Γ)
 f30:=⟨Tryz.f155.name,by decide,func155.trans (congrArg some Γ)⟩
 f31:=func156.trans (congrArg some Γ)
 f32:=func157.trans (congrArg some Γ)
 f33:=⟨Tryz.f158.name,by decide,func158.trans (congrArg some Γ)⟩
 f34:=⟨Tryz.f159.name,by decide,func159.trans (congrArg some Γ)⟩
 f35:=⟨Tryz.f149.name,by decide,func149.trans (congrArg some Γ)⟩
 f40:=⟨Tryz.f181.name,by decide,func181.trans (congrArg some Γ)⟩
 t0:=underlying0
 a0:=Tryz.isAgg0
 z0:=Tryz.sizeOf0
 v0:=Tryz.zeroValue0
 t3:=underlying3
 a3:=Tryz.isAgg3
 z3:=Tryz.sizeOf3
 v3:=Tryz.zeroValue3
 t4:=underlying4
 a4:=Tryz.isAgg4
 z4:=Tryz.sizeOf4
 v4:=Tryz.zeroValue4
 t5:=underlying5
 a5:=Tryz.isAgg5
 z5:=Tryz.sizeOf5
 v5:=Tryz.zeroValue5
 t9:=underlying9
 a9:=Tryz.isAgg9
 z9:=Tryz.sizeOf9
 v9:=Tryz.zeroValue9
 t22:=underlying54
 a22:=Tryz.isAgg54
 z22:=Tryz.sizeOf54
 v22:=Tryz.zeroValue54
 t23:=underlying54
 a23:=Tryz.isAgg54
 z23:=Tryz.sizeOf54
 v23:=Tryz.zeroValue54
 t25:=underlying3
 a25:=Tryz.isAgg3
 z25:=Tryz.sizeOf3
 v25:=Tryz.zeroValue3
 t32:=underlying165
 a32:=Tryz.isAgg165
 z32:=Tryz.sizeOf165
 v32:=Tryz.zeroValue165
 t35:=underlying219
 a35:=Tryz.isAgg219
 z35:=Tryz.sizeOf219
 v35:=Tryz.zeroValue219
 t36:=underlying220
 a36:=Tryz.isAgg220
 z36:=Tryz.sizeOf220
 v36:=Tryz.zeroValue220
 t41:=underlying117
 a41:=Tryz.isAgg117
 z41:=Tryz.sizeOf117
 v41:=Tryz.zeroValue117
 t44:=underlying226
 a44:=Tryz.isAgg226
 z44:=Tryz.sizeOf226
 v44:=Tryz.zeroValue226
 t46:=underlying43
 a46:=Tryz.isAgg43
 z46:=Tryz.sizeOf43
 v46:=Tryz.zeroValue43
 t53:=underlying254
 a53:=Tryz.isAgg254
 z53:=Tryz.sizeOf254
 v53:=Tryz.zeroValue254
 t57:=underlying257
 a57:=Tryz.isAgg257
 z57:=Tryz.sizeOf257
 v57:=Tryz.zeroValue257
 t63:=underlying282
 a63:=Tryz.isAgg282
 z63:=Tryz.sizeOf282
 v63:=Tryz.zeroValue282
 t64:=underlying283
 a64:=Tryz.isAgg283
 z64:=Tryz.sizeOf283
 v64:=Tryz.zeroValue283}
end
section
open Go.RowKit
def Xe{w:World}{a base' k n:Nat}{e:TypeId}{v:Value}{xs:List Value}(h:w.ownsRow a e k v n xs)(j:base'<=a):w.ownsRow base' e k v n xs:=
 ⟨h.1,h.2.imp id λ⟨i,f,g,b,c,d⟩=>⟨i,f,g,b,Bi j c,d⟩⟩
def sJ:∀(s:List Wr)(k:Nat)(x:Wr),k<s.length->(((FQ s).set (k*3) (.string x.key)).set (k*3+1) (.string x.text)).set (k*3+2) (.bool x.gone)=FQ (s.set k x)
 |a::b,0,x,_=>by simp[FQ,wrC]
 |a::b,k+1,x,h=>by
  have e:=sJ b k x (by simpa using h);have c:FQ (a::b)=.string a.key:: .string a.text:: .bool a.gone::FQ b:=by simp[FQ,wrC]
  have d:FQ ((a::b).set (k+1) x)=.string a.key:: .string a.text:: .bool a.gone::FQ (b.set k x):=by simp[FQ,wrC]
  rw[c,d,show(k+1)*3=k*3+1+1+1 by omega];simp only[Au];rw[e]
def Aeb(s:List Wr)(k:Nat)(a:k<=s.length):(FQ s).take (k*3)=FQ (s.take k):=by
 have h:=ZN (s.take k) (s.drop k);rw[GZ]at h;rw[h,List.take_append_of_le_length (by rw[Nc];simp;omega),List.take_of_length_le (by rw[Nc];simp;omega)]
def Aec(s:List Wr)(k:Nat)(b:k<=s.length):(FQ s).drop (k*3)=FQ (s.drop k):=by
 have h:=ZN (s.take k) (s.drop k);rw[GZ]at h;have a:(FQ (s.take k)).length=k*3:=by rw[Nc];simp;omega
 rw[h,List.drop_append_of_le_length O,<-a,List.drop_length,EX]
section
variable{w:World}{G:Nat->Prop}{v:Value}{s:List Wr}
def sK(h:H7 w G v s)(K:s.length<=16)(x:Wr)(C:x.key.size<=4294967296)(D:x.text.size<=4294967296)(i:Dx x=false):
 Calls prog 18 #[v,VR x] w λf w'=>∃c,f=.returned (.tuple #[c,.int .i64 (Ky s x).2])/\w'.ownsRow w.heap.size 53 3 c (Ky s x).1.length (FQ (Ky s x).1)/\η w w':=by
 obtain⟨b,g,m,d⟩:=Fz w 53 [.string x.key,.string x.text,.bool x.gone];have a:=Aa (λb=>PO x b C D);rw[i]at a;have B:=Aa (λb(E:η w b)=>PQ (h.below E) O);obtain⟨F,I,rfl,J,p⟩:=h;have H:=Aa p.1;have u:=Aa d;have k:=Aa m;have z:=Aa g;obtain⟨q,r,t⟩:=d.p3;rw[g]at q r t;unfold VR at a⊢;have j:Hid (Ky s x=(s,2)):=Aa (by unfold Ky;rw[if_pos i]);clear i d m g p;go_enter func18,ntmps18
 go_wp2_with fail
 rw[<-z.out];refine(a.out _).mono ?_;rintro f L⟨rfl,n⟩;have e:=Aa (τ k.out n);clear a n u k q r t
 go_wp2_with fail
 refine(B.out _ e.out).mono ?_;rintro f M⟨c,rfl,l,o⟩;have y:=Aa (Xe l e.out.size);have A:=Aa (τ e.out o);clear l o
 go_wp2_with fail
 go_ret2;exact⟨c,by rw[j.out];rfl,by rw[j.out];exact y.out,A.out⟩
def lW(h:H7 w G v s)(W:s.length<=16)(x:Wr)(S:x.key.size<=4294967296)(T:x.text.size<=4294967296)(r:Dx x=true)(J:VQ s)(q:ny s x.key=false)(H:16<=s.length):
 Calls prog 18 #[v,VR x] w λg w'=>∃i,g=.returned (.tuple #[i,.int .i64 (Ky s x).2])/\w'.ownsRow w.heap.size 53 3 i (Ky s x).1.length (FQ (Ky s x).1)/\η w w':=by
 obtain⟨a,n,D,j⟩:=Fz w 53 [.string x.key,.string x.text,.bool x.gone];have f:=Aa (λa=>PO x a S T);rw[r]at f;have Q:=Aa (λa(t:η w a)=>PQ (h.below t) O);obtain⟨U,R,rfl,V,I⟩:=h;have M:=Aa I.1;have u:=Aa j;have A:=Aa D;have N:=Aa n;obtain⟨b,c,d⟩:=j.p3;rw[n]at b c d;unfold VR at f⊢;have z:Hid (Ky s x=(s,3)):=Aa (by unfold Ky;rw[if_neg (by rw[r];decide),if_neg (by rw[q];decide),if_pos H]);have e:=Aa (λa(t:η w a)=>ZQ (c:=R) x.key O (Rd.below M.out t) J);rw[q]at e;obtain⟨B,F⟩:∃B,GX s x.key=B:=⟨_,rfl⟩;rw[F]at e;have t1:decide ((16:Int)<=(s.length:Int))=true:=decide_eq_true O;clear r q J F H j D n I;go_enter func18,ntmps18
 go_wp2_with fail
 rw[<-N.out];refine(f.out _).mono ?_;rintro g X⟨rfl,o⟩;have k:=u.out.ξ o;have l:=Aa (τ A.out o);clear b c d;obtain⟨b,c,d⟩:=k.p3;have y:=Aa k;clear f o k u A
 go_wp2_with fail
 refine(e.out _ l.out).mono ?_;rintro g Y⟨rfl,p⟩;have m:=Aa (τ l.out p);have K:=Aa (y.out.ξ p);clear b c d;obtain⟨b,c,d⟩:=K.out.p3;clear e p y l
 go_wp2_with fail
 refine(Q.out _ m.out).mono ?_;rintro g Z⟨i,rfl,C,E⟩;have L:=Aa (Xe C m.out.size);have P:=Aa (τ m.out E);clear C E
 go_wp2_with fail
 go_ret2;exact⟨i,by rw[z.out];rfl,by rw[z.out];exact L.out,P.out⟩
def sO(h:H7 w G v s)(a1:s.length<=16)(x:Wr)(an:x.key.size<=4294967296)(ao:x.text.size<=4294967296)(I:Dx x=true)(V:VQ s)(n:ny s x.key=true):
 Calls prog 18 #[v,VR x] w λk w'=>∃o,k=.returned (.tuple #[o,.int .i64 (Ky s x).2])/\w'.ownsRow w.heap.size 53 3 o (Ky s x).1.length (FQ (Ky s x).1)/\η w w':=by
 obtain⟨f,D,S,r⟩:=Fz w 53 [.string x.key,.string x.text,.bool x.gone];have i:=Aa (λf=>PO x f an ao);rw[I]at i;have P:=Aa (λf(J:η w f)=>PQ (h.below J) O);obtain⟨aD,ad,rfl,a0,U⟩:=h;have Z:=Aa U.1;have L:=Aa r;have N:=Aa S;have aa:=Aa D;obtain⟨c,d,e⟩:=r.p3;rw[D]at c d e;unfold VR at i⊢;have z:Hid (Ky s x=(s.set (GX s x.key) x,0)):=Aa (by unfold Ky;rw[if_neg (by rw[I];decide),if_pos n]);have g:=Aa (λf(J:η w f)=>ZQ (c:=ad) x.key O (Rd.below Z.out J) V);rw[n]at g;have m:=Agy n;obtain⟨a,T⟩:∃a,GX s x.key=a:=⟨_,rfl⟩;rw[T]at g z m;obtain⟨t1,t2⟩:=Aus m;clear I n V T r S D U;go_enter func18,ntmps18
 go_wp2_with fail
 rw[<-aa.out];refine(i.out _).mono ?_;rintro k a6⟨rfl,E⟩;have t:=L.out.ξ E;have A:=Aa (τ N.out E);clear c d e;obtain⟨c,d,e⟩:=t.p3;have M:=Aa t;clear i E t L N
 go_wp2_with fail
 refine(g.out _ A.out).mono ?_;rintro k X⟨rfl,F⟩;have j:=Aa (τ A.out F);have u:=Aa (M.out.ξ F);clear c d e;obtain⟨c,d,e⟩:=u.out.p3;clear g F M A
 go_wp2_with fail
 refine(P.out _ j.out).mono ?_;rintro k K⟨o,rfl,C,H⟩;obtain⟨b,Q,rfl,am⟩:∃b Q,o=.slice (some (Φ b)) s.length Q/\X.heap.size<=b:=by
  rcases C.2 with⟨_,l⟩|⟨al,af,aM,B,l,_⟩
  ·omega
  ·exact⟨al,af,B,l⟩
 have y:=Aa (Xe C j.out.size);have ab:=Aa (τ j.out H);have Y:=Aa (u.out.ξ H);have aR:=y.out.frozenAt;have aG:Hid (w.heap.size<X.heap.size):=Aa u.out.lt;clear c d e;obtain⟨c,d,e⟩:=Y.out.p3;have ap:K.cell? (Δ b (a*3))=some (.string s[a].key)/\K.cell? (Δ b (a*3+1))=some (.string s[a].text)/\K.cell? (Δ b (a*3+2))=some (.bool s[a].gone):=by
  obtain⟨aE,aL,R,_,ar⟩:=DR y.out;obtain⟨aH,a5,ah,_,av⟩:=qh ar a m;subst ah;simp only[Value.slice.injEq,Option.some.injEq,Addr.mk.injEq]at R;obtain⟨⟨B,l,_⟩,_⟩:=R;subst B l;simpa using av
 obtain⟨aw,az,aB⟩:=ap;generalize s[a].key=a4,s[a].text=a3,s[a].gone=a2 at aw az aB;clear C H P;have q:w.heap.size<=b:=Bi j.out.size am;have ac:=Aa m
 go_wp2_with fail
 have W:=(((y.out.stored (a*3) (.string x.key)).1.stored (a*3+1) (.string x.text)).1.stored (a*3+2) (.bool x.gone)).1;have aq:=((ab.out.setCell (p:=Δ b (a*3)) q (.string x.key)).setCell (p:=Δ b (a*3+1)) q (.string x.text)).setCell (p:=Δ b (a*3+2)) q (.bool x.gone);rw[sJ s a x ac.out]at W;go_ret2;exact⟨_,by rw[z.out];rfl,by rw[z.out];simpa using W,aq⟩
def sQ(h:H7 w G v s)(bE:s.length<=16)(x:Wr)(bg:x.key.size<=4294967296)(bi:x.text.size<=4294967296)(T:Dx x=true)(l:VQ s)(k:ny s x.key=false)(bB:s.length<16):
 Calls prog 18 #[v,VR x] w λJ w'=>∃aa,J=.returned (.tuple #[aa,.int .i64 (Ky s x).2])/\w'.ownsRow w.heap.size 53 3 aa (Ky s x).1.length (FQ (Ky s x).1)/\η w w':=by
 obtain⟨b,M,aD,t⟩:=Fz w 53 [.string x.key,.string x.text,.bool x.gone];have o:=Aa (λb=>PO x b bg bi);rw[T]at o;have bs:=Aa (λb(X:η w b)=>PQ (h.below X) O);obtain⟨g,f,rfl,bc,aH⟩:=h;have B:=Aa aH.1;have af:=Aa t;have al:=Aa aD;have aR:=Aa M;obtain⟨c,d,e⟩:=t.p3;rw[M]at c d e;unfold VR at o⊢;have A:Hid (Ky s x=(s.take (GX s x.key)++x::s.drop (GX s x.key),0)):=Aa (by unfold Ky;rw[if_neg (by rw[T];decide),if_neg (by rw[k];decide),if_neg O]);have n:=Aa (λb(X:η w b)=>ZQ (c:=f) x.key O (Rd.below B.out X) l);rw[k]at n;have r:=ZI s x.key;obtain⟨a,aE⟩:∃a,GX s x.key=a:=⟨_,rfl⟩;rw[aE]at n A r;have t1:decide ((16:Int)<=(s.length:Int))=false:=decide_eq_false O;clear T k l aE t aD M aH;have S:∀b:World,(Instr.makeSlice 38 (.int .i64 0) (.int .i64 ((s.length:Int)+1))).run prog b=.ok (.slice (some (Φ b.heap.size)) 0 (s.length+1)) (b.alloc (.cells (madeCells (Value.agg #[.string ⟨#[]⟩,.string ⟨#[]⟩,.bool false]).cells ((s.length+1)*3)) 53)):=λb=>by
  obtain⟨bp,be,bk,bl,bm⟩:=info_parts Tryz.qc.hi;have:=run_make (P:=prog) (w:=b) 38 53 bp _ underlying38 be bk .i64 .i64 0 ((s.length:Int)+1) O O (by rw[bm];omega) O;rw[bl]at this;simpa[show((s.length:Int)+1).toNat=s.length+1 by omega]using this
 obtain⟨m,V⟩:∃m,madeCells (Value.agg #[.string ⟨#[]⟩,.string ⟨#[]⟩,.bool false]).cells ((s.length+1)*3)=m:=⟨_,rfl⟩;have bo:m.size=(s.length+1)*3:=by rw[<-V];simp[madeCells]
 rw[V]at S;have bA:=bc;have bt:decide ((a:Int)<=(f:Int))=true:=decide_eq_true O;have bw:decide (a<=f)=true:=decide_eq_true O;have bx:decide ((a:Int)<=(s.length:Int))=true:=decide_eq_true O;have aq:decide (a<=s.length)=true:=decide_eq_true r;clear V;go_enter func18,ntmps18
 go_wp2_with fail
 rw[<-aR.out];refine(o.out _).mono ?_;rintro J bN⟨rfl,N⟩;have u:=af.out.ξ N;have C:=Aa (τ al.out N);clear c d e;obtain⟨c,d,e⟩:=u.p3;have ah:=Aa u;clear o N u af al
 go_wp2_with fail
 refine(n.out _ C.out).mono ?_;rintro J i⟨rfl,Q⟩;have am:=Aa (τ C.out Q);have y:=Aa (ah.out.ξ Q);clear c d e;obtain⟨c,d,e⟩:=y.out.p3;clear n Q ah C;have bh:=S i;obtain⟨F,q⟩:=ε (i.alloc (.cells m 53));rw[<-q]at bh;have az:F.ownsRow w.heap.size 53 3 (.slice (some (Φ i.heap.size)) 0 (s.length+1)) 0 []:=⟨by simp,.inr ⟨i.heap.size,s.length+1,m,rfl,am.out.size,q▸heap_alloc_new _ _,O,Bi (show s.length+1<=17 by omega) U,by rw[bo],by simp⟩⟩;have R:η i F:=q▸(Below.refl _ _).alloc (Nat.le_refl _) _;have z:=Aa (y.out.ξ R);have D:=Aa (τ am.out R);have a1:=Aa az;clear c d e;obtain⟨c,d,e⟩:=z.out.p3;have j:Rd F g (a*3) (FQ (s.take a)):=by
  have L:=Rd.below B.out D.out;refine⟨by rw[Nc];simp;omega,λk=>?_⟩;obtain⟨I,Z,K,Y,ac⟩:=L.2 O;exact⟨I,Z,K,Y,λW aG=>by rw[ac W O,<-Aeb s a r,List.getElem?_take,if_pos aG]⟩
 have a5:=Aa j;clear S q az R j
 go_wp2_with(at_builtin;first
  |(refine IJ rfl (.tmp 39) (.tmp 42) 38 rfl Tryz.qc U w.heap.size (.slice (some (Φ i.heap.size)) 0 (s.length+1)) 0 [] rfl a1.out g a f (FQ (s.take a)) rfl a5.out (ZM _) O U D.out.size ?_
    intro bL ab p ar aw;rw[Nat.zero_add,EX]at p;obtain⟨aL,aq,bj,_,_⟩:=DR p;subst bj;have a3:=Aa p;have an:=Aa (D.out.trans ar);have ad:CQ ab w.heap.size 53 [.string x.key,.string x.text,.bool x.gone]:=(aw.2 w.heap.size z.out.lt (by have:=y.out.lt;simp only[Ba,ne_eq,Option.some.injEq];omega)).trans z.out;clear c d e;obtain⟨c,d,e⟩:=ad.p3;clear p ar aw ad)
  |(refine E5 rfl (.tmp 44) (.tmp 46) 38 rfl Tryz.qc ab w.heap.size (.slice aL a aq) a (FQ (s.take a)) [.string x.key,.string x.text,.bool x.gone] rfl a3.out rfl ab.heap.size 1 rfl rfl rfl U (by intro aa l;simp at l;rcases l with rfl|rfl|rfl<;>rfl) O U an.out.size ?_
    intro a9 a4 br aB av ba bd;have a2:=Aa aB;have E:=Aa (an.out.trans av);have j:Rd br (if f=a then g else g.map λH=>H.add (a*3)) ((s.length-a)*3) (FQ (s.drop a)):=by
     have L:=Rd.below B.out E.out;refine⟨by rw[Nc];simp,λk=>?_⟩;obtain⟨I,Z,K,Y,ac⟩:=L.2 O;subst K;exact⟨I,Z+a*3,by rw[if_neg O,Option.map_some,Addr.add_lit],Y,λW aG=>by rw[Nat.add_assoc,ac (a*3+W) O,<-Aec s a r,List.getElem?_drop]⟩
    have aM:=Aa j;clear aB av ba bd j)
  |(refine IJ rfl (.tmp 48) (.tmp 51) 38 rfl Tryz.qc U w.heap.size (.slice (some (Φ a9)) (a+1) a4) (a+1) (FQ (s.take a)++[.string x.key,.string x.text,.bool x.gone]) rfl a2.out (if f=a then g else g.map λH=>H.add (a*3)) (s.length-a) (f-a) (FQ (s.drop a)) rfl aM.out (ZM _) O U E.out.size ?_
    intro bq bO ap ao bb;have a6:=Aa ap;have a0:=Aa (E.out.trans ao);clear ap ao bb)
  |fail)
 all_goals(
  go_ret2;have a7:a+1+(s.length-a)=(s.take a++x::s.drop a).length:=by simp;omega
  have a8:FQ (s.take a)++[.string x.key,.string x.text,.bool x.gone]++FQ (s.drop a)=FQ (s.take a++x::s.drop a):=by rw[ZN];simp[FQ,wrC]
  exact⟨bq,by rw[A.out];rfl,by rw[A.out,<-a7,<-a8];exact a6.out,a0.out⟩)
end
def yV{w:World}{G:Nat->Prop}{v:Value}{s:List Wr}(h:H7 w G v s)(b:s.length<=16)(x:Wr)(a:x.key.size<=4294967296)(c:x.text.size<=4294967296)(f:VQ s):
 Calls prog 18 #[v,VR x] w λi w'=>∃g,i=.returned (.tuple #[g,.int .i64 (Ky s x).2])/\w'.ownsRow w.heap.size 53 3 g (Ky s x).1.length (FQ (Ky s x).1)/\η w w':=by
 cases d:Dx x with
 |false=>exact sK h b x a c d
 |true=>
  cases e:ny s x.key with
  |true=>exact sO h b x a c d f e
  |false=>
   by_cases j:16<=s.length
   ·exact lW h b x a c d f e j
   ·exact sQ h b x a c d f e O
def Tryz.Ao9:JE prog 27 38 (.slice none 0 0) 1 24:=⟨underlying27,by kernel_rfl,rfl⟩
def Xf(w:World)(A:Option Addr)(l:List (List Wr)):Prop:=∀a(h:a<l.length),∃b d c e,A=some (Δ b d)/\b<w.heap.size/\w.cell? (Δ b (d+a))=some (.slice c l[a].length e)/\l[a].length<=maxLen/\Rd w c (l[a].length*3) (FQ l[a])
def Xf.below{w w':World}{A:Option Addr}{l:List (List Wr)}(h:Xf w A l)(k:η w w'):Xf w' A l:=λm j=>by
 obtain⟨c,n,b,d,e,a,f,g,i⟩:=h m j;exact⟨c,n,b,d,e,Nat.lt_of_lt_of_le a k.size,(Bh (w:=w) (k.block _ a)).trans f,g,Rd.below i k⟩
def GoodS(s:List Wr):Prop:=(∀a∈s,Dx a=true)/\VQ s/\s.length<=16
def GoodS.nil:GoodS []:=⟨λ_ h=>(nomatch h),List.Pairwise.nil,by decide⟩
def GoodS.put{s:List Wr}(h:GoodS s)(x:Wr):GoodS (Ky s x).1:=⟨xE h.1 x,Aj9 h.2.1 x,Ψ (Agz s x) h.2.2⟩
def OX(w:World)(G:Nat->Prop)(v:Value)(a:List (Value×List Wr)):Prop:=∃c d,v=.slice c a.length d/\Jo w G c a.length (a.map Prod.fst)/\∀b∈a,H7 w G b.1 b.2/\GoodS b.2
def OX.moved{w w':World}{G a:Nat->Prop}{v:Value}{d:List (Value×List Wr)}(h:OX w G v d)(m:AP G a w w'):OX w' a v d:=by
 obtain⟨f,g,i,j,b⟩:=h;exact⟨f,g,i,j.moved m,λe c=>⟨(b e c).1.moved m,(b e c).2⟩⟩
def OX.below{w w':World}{G:Nat->Prop}{v:Value}{a:List (Value×List Wr)}(h:OX w G v a)(k:η w w'):OX w' G v a:=h.moved (AP.of_below k)
def OX.mono{w:World}{F G:Nat->Prop}{v:Value}{d:List (Value×List Wr)}(h:OX w G v d)(k:∀a,a<w.heap.size->F a->G a):OX w F v d:=by
 obtain⟨f,g,i,j,b⟩:=h;exact⟨f,g,i,j.mono k,λe c=>⟨(b e c).1.mono k,(b e c).2⟩⟩
def Apa(l:List (List Wr))(A:Option Addr)(c:Nat)(w:World)(ba:l.length<=maxLen)(h:Xf w A l):Calls prog 5 #[.slice A l.length c] w λj w'=>η w w'/\
 (j=.returned (.tuple #[.slice none 0 0,.bool false])\/∃v d,j=.returned (.tuple #[v,.bool true])/\OX w' (λ_=>False) v d/\d.length<=12):=by
 unfold maxLen at ba;have aD:=Aa h;clear h;go_enter func5,ntmps5
 go_wp2_with fail
 go_loopw [4,12](λq o wr=>∃(b:Nat)(d:List (Value×List Wr)),b<=l.length/\b<=12/\o=.int .i64 (b:Nat)/\d.length=b/\wr.ownsRow w.heap.size 38 1 q d.length (d.map Prod.fst)/\(∀e∈d,H7 wr (λa=>q.ownBlock=some a) e.1 e.2/\GoodS e.2)/\η w wr)(λ_ o _=>l.length-(intOf o).toNat)
 case atStart=>exact⟨0,[],BB _,by decide,rfl,rfl,World.ownsRow_nil _ _ _ _,λ_ h=>(nomatch h),Below.refl _ _⟩
 case round=>
  obtain⟨b,d,bA,bB,rfl,ah,af,al,f⟩:=hrel;have z:=Aa af;have B:=Aa al;have t:=Aa f;clear af al f;have P:Hid (∃p,OX wr (λ_=>False) u4 p/\p.length<=12):=Aa (by
   obtain⟨aq,aR,Y,bx,_⟩:=DR z.out;refine⟨d,⟨aq,aR,Y,?_,λe n=>⟨(B.out e n).1.mono (λ_ _ h=>h.elim),(B.out e n).2⟩⟩,O⟩;have:=z.out;rw[Y]at this;exact Jo.KR this (λ_ _ _ h=>h))
  by_cases ad:b<l.length
  ·obtain⟨an,bg,bV⟩:=YB ad;have bT:=jh b O;obtain⟨a,bW,ar,a2,rfl,bt,bX,bb,T⟩:=(aD.out.below t.out) b ad;unfold maxLen at bb;by_cases Z:b=12
   ·subst Z
    go_wp2_with fail
    go_ret2;obtain⟨p,H,I⟩:=P.out;exact⟨t.out,.inr ⟨_,p,rfl,H,I⟩⟩
   ·have t12:((b:Int)==12)=false:=ζ O;have bo:(b==12)=false:=ζ Z;clear P;generalize l[b]=s at*;have u:=Aa (xU s ar a2 wr O T);have aE:=Aa T;clear T;cases E:qi s with
    |false=>
     rw[E]at u
     go_wp2_with fail
     refine u.out.mono ?_;rintro j bi⟨rfl,D⟩;have K:=Aa (τ t.out D);clear D u
     go_wp2_with fail
     go_ret2;exact⟨K.out,.inl rfl⟩
    |true=>
     have az:=Aa (qj E);have bp:s.length<=60:=(qj E).1;rw[E]at u;clear E
     go_wp2_with fail
     refine u.out.mono ?_;rintro j bi⟨rfl,D⟩;have K:=Aa D;clear D u
     go_wp2_with fail
     have aB:Hid (∀a,u4.ownBlock=some a->a<wr.heap.size):=Aa (λa f=>by
      rcases z.out.2 with⟨k,_⟩|⟨a5,a1,a3,k,_,a7,_⟩
      ·subst k;cases f
      ·subst k;injection f with f;subst f;exact(Array.getElem?_eq_some_iff.1 a7).1)
     obtain⟨bl,rfl⟩:=ε wr
     go_loopw [7,24](λq o ap=>∃(g:Nat)(i:List Wr),g<=s.length/\o=.int .i64 (g:Nat)/\H7 ap (λa=>u4.ownBlock=some a) q i/\GoodS i/\η bl ap)(λ_ o _=>s.length-(intOf o).toNat)
     case atStart=>exact⟨0,[],BB _,rfl,H7.nil,GoodS.nil,K.out⟩
     case round=>
      obtain⟨g,i,bL,rfl,F,x,m⟩:=hrel;by_cases S:g<s.length
      ·obtain⟨bN,bO,bq⟩:=YB S;have bR:=jh g O;obtain⟨bs,bm,rfl,bw,b0,b1,b2⟩:=qh (Rd.below aE.out m) g S;have bS:=az.out.2 s[g] (BH S);generalize s[g]=y at*;obtain⟨br,ac,R,-⟩:=Fz wr 61 [.string y.key,.string y.text,.bool y.gone];have M:=Aa (yV (F.below R) x.2.2 y O O x.2.1);have L:=Aa (x.put y);have V:=Aa (τ m R);have aG:=Aa ac;clear F x m R ac;unfold VR at M
       go_wp2_with fail
       rw[<-aG.out]
       try go_wp2_with fail
       refine M.out.mono ?_;rintro j bj⟨q,rfl,ab,aa⟩;have G:Hid (H7 bj (λa=>u4.ownBlock=some a) q (Ky i y).1):=Aa (qf ab rfl (λa k _ h=>Ψ (aB.out a h) V.out.size));have aw:=Aa (τ V.out aa);clear ab aa M
       go_wp2_with fail
       go_roundw
       case rel=>exact⟨g+1,_,O,by go_num,G.out,L.out,aw.out⟩
       case measure=>simp[intOf];omega
      ·have bc:g=s.length:=O;subst bc;have G:=Aa F;have L:=Aa x;have a9:w.heap.size<=wr.heap.size:=Bi t.out.size m.size;have av:=Aa (τ t.out m);have aL:=Aa (Fg z.out (Kept.of_below (r:=none) m) (by
        rcases z.out.2 with⟨k,_⟩|⟨a5,a1,a3,k,_⟩
        ·exact .inr (by subst k;rfl)
        ·exact .inl (by subst k;exact λj=>nomatch j)))
       obtain⟨J,N,be⟩:=F.slice;subst be;have W:Hid (∀e∈d++[(.slice J i.length N,i)],H7 wr (λa=>u4.ownBlock=some a) e.1 e.2/\GoodS e.2):=Aa (λe n=>by
        rcases List.mem_append.1 n with h|h
        ·exact⟨((B.out e h).1.below m),(B.out e h).2⟩
        ·rw[List.mem_singleton.1 h];exact⟨G.out,L.out⟩)
       have bh:Hid (∀v:Value,(d++[(v,i)]).map Prod.fst=d.map Prod.fst++[v]):=Aa (λv=>by simp);clear F x m B G
       go_wp2_with(at_builtin;refine E5 rfl (.tmp 35) (.tmp 37) 27 rfl Tryz.Ao9 _ w.heap.size u4 d.length (d.map Prod.fst) [.slice J i.length N] rfl (by exact aL.out) rfl wr.heap.size 1 rfl Θ rfl U (by intro q am;simp at am;subst am;rfl) O U a9 ?_;intro a6 a0 bk X C Q ao)
       have a4:=Aa X;have aH:=Aa C;have aM:Hid (AP (λa=>u4.ownBlock=some a) (λa=>(Value.slice (some (Φ a6)) (d.length+1) a0).ownBlock=some a) wr bk):=Aa ⟨⟨C.os,C.tape,C.output,Q.1,λa a8 bd=>Q.2 a a8 (λj=>bd j.symm)⟩,λa f=>by
        simp only[Ba,Option.some.injEq]at f;subst f;exact ao⟩
       clear X C Q ao
       go_wp2_with fail
       go_roundw
       case rel=>
        refine⟨b+1,d++[(.slice J i.length N,i)],O,O,by go_num,by simp;omega,?_,λe n=>⟨(W.out e n).1.moved aM.out,(W.out e n).2⟩,av.out.trans aH.out⟩;rw[bh.out,List.length_append,ah];have:=a4.out;rw[ah]at this;exact this
       case measure=>simp[intOf];omega
  ·have bE:b=l.length:=O;have an:¬(b:Int)<(l.length:Int):=O;have bg:decide ((b:Int)<(l.length:Int))=false:=decide_eq_false an
   go_wp2_with fail
   go_ret2;obtain⟨p,H,I⟩:=P.out;refine⟨t.out,.inr ?_⟩
   first|exact⟨_,p,rfl,H,I⟩|exact⟨_,rfl,p,H,I⟩
