import Derived.Test.YtjcppneoncpdbaaGreatDoorG01
import Derived.Test.YtjcppneoncpdbaaGreatDoorG03
import Derived.Test.YtjcppneoncpdbaaGreatDoorG04
import Derived.Test.YtjcppneoncpdbaaGreatDoorG09
import Derived.Test.YtjcppneoncpdbaaGreatDoorG10
set_option maxHeartbeats 32000000
set_option maxRecDepth 100000
open Nat renaming le_trans->Bf,lt_of_lt_of_le->Cb,le_refl->Ae,mod_eq_of_lt->FM
open Go.World renaming setCell->Du
open Array renaming size_modify->Oq,getElem?_modify->Qk,getElem?_eq_some_iff->Az
open Go.Value renaming ownBlock->AX,int->Aw,slice->Ac
open List renaming length_drop->AO,findIdx?_eq_some_iff_getElem->Kw,getElem?_cons_succ->Af,getElem?_cons_zero->Ad,getElem?_map->BO,getElem?_eq_getElem->Ag,length_append->AQ,mem_append->AL,mem_singleton->BD,length_cons->BJ,getElem_of_mem->CG,pairwise_iff_getElem->Zu,getElem_set->JO,getElem_drop->VY,length_take->Ed,mem_cons->D9,take_zero->aY,set_cons_zero->Am,set_cons_succ->Aq,cons_append->Ci,nil_append->Et,map_cons->Cf,map_nil->FY,take_of_length_le->EW,length_map->CZ
open Go.Lib renaming hid->Aa
open UInt64 renaming ofNat->AA
namespace Go.Proofs.YtjcppneoncpdbaaGreatDoor
open Go.RowKit
theorem Tryz.Aa4:J4 Tryz.prog 221 227 (.agg #[.slice none 0 0,.int .u64 0,.slice none 0 0,.slice none 0 0,.int .i64 0,.int .u8 0,.int .i64 0]) 7 104:=⟨Tryz.underlying221,by kernel_rfl,rfl⟩
def CQ(e:TypeId)(w w':World):Prop:=w.heap.size<=w'.heap.size/\∀j,j<w.heap.size->(∃cs fz,w.heap[j]? =some (.cells cs e fz))\/w'.heap[j]? =w.heap[j]?
theorem CQ.of_below{e:TypeId}{w w':World}(h:Below w.heap.size w w'):CQ e w w':=⟨h.size,fun j hj=> .inr (h.block j hj)⟩
theorem CQ.trans{e:TypeId}{a b c:World}(h:CQ e a b)(k:CQ e b c):CQ e a c:=by
 refine⟨Bf h.1 k.1,fun j hj=> ?_⟩;rcases h.2 j hj with h'| h'
 ·exact .inl h'
 ·rcases k.2 j (Cb hj h.1)with⟨cs,fz,k'⟩| k'
  ·exact .inl ⟨cs,fz,h'▸k'⟩
  ·exact .inr (k'.trans h')
theorem CQ.AU{e:TypeId}{w:World}{g:Nat}{xs:List Value}(h:BI w g e xs)(i:Nat)(u:Value):CQ e w (w.setCell ⟨g,i,none⟩ u):=by
 refine⟨by simp [Du,Oq],fun j hj=> ?_⟩;by_cases hjg:j=g
 ·exact .inl ⟨_,_,hjg▸h⟩
 ·exact .inr (by simp only [Du,Qk];rw [if_neg (fun e=>hjg e.symm)])
theorem CQ.kept{e:TypeId}{w w':World}{base k n:Nat}{v:Value}{xs:List Value}(h:w.ownsRow base e k v n xs)(hk:Kept w w' v.ownBlock):CQ e w w':=by
 refine⟨hk.1,fun j hj=> ?_⟩;by_cases hjv:some j=v.ownBlock
 ·rcases h.2 with⟨h1,_⟩| ⟨g,cap,cur,h1,_,h3,_⟩
  ·subst h1;simp [AX]at hjv
  ·subst h1;simp [AX]at hjv;subst hjv;exact .inl ⟨_,_,h3⟩
 ·exact .inr (hk.2 j hj hjv)
theorem CQ.own{e f:TypeId}(hef:f≠e){w w':World}{base k n:Nat}{v:Value}{xs:List Value}(s:CQ e w w')(h:w.ownsRow base f k v n xs):w'.ownsRow base f k v n xs:=by
 refine⟨h.1,?_⟩;rcases h.2 with h1| ⟨g,cap,cur,h1,h2,h3,h4⟩
 ·exact .inl h1
 ·refine .inr ⟨g,cap,cur,h1,h2,?_,h4⟩;rcases s.2 g (Az.1 h3).1 with⟨cs,fz,h'⟩| h'
  ·rw [h3]at h';injection h' with h';injection h' with _ h'';exact absurd h'' hef
  ·rw [h',h3]
theorem CQ.nd{w w':World}{base:Nat}{v:Value}{x:Nd}(s:CQ 227 w w')(h:VH w base v x):VH w' base v x:=by
 obtain⟨A1,c1,A2,c2,A3,c3,e,h1,h2,h3⟩:=h;exact⟨A1,c1,A2,c2,A3,c3,e,s.own (by decide) h1,s.own (by decide) h2,s.own (by decide) h3⟩
theorem VH.mono{w:World}{base base':Nat}{v:Value}{x:Nd}(h:VH w base v x)(hb:base'<=base):VH w base' v x:=by
 obtain⟨A1,c1,A2,c2,A3,c3,e,h1,h2,h3⟩:=h;exact⟨A1,c1,A2,c2,A3,c3,e,E8 h1 hb,E8 h2 hb,E8 h3 hb⟩
def PlV(w:World)(base:Nat)(cs:List Value)(pl:Pl):Prop:=
 ∃a b c d,cs=[a,b,c,d,.int .i64 pl.off,.int .u8 (pl.label.toNat:Int),.int .i64 pl.word]/\VH w base (.agg #[a,b,c,d]) pl.nd
def UN(w:World)(base:Nat):List (List Value)->List Pl->Prop
 | [],[]=>True
 | c::cs,p::ps=>PlV w base c p/\UN w base cs ps
 | _,_=>False
theorem CQ.pl{w w':World}{base:Nat}{cs:List Value}{p:Pl}(s:CQ 227 w w')(h:PlV w base cs p):PlV w' base cs p:=by
 obtain⟨a,b,c,d,e,h⟩:=h;exact⟨a,b,c,d,e,s.nd h⟩
theorem CQ.pls{w w':World}{base:Nat}(s:CQ 227 w w'):∀(vs:List (List Value))(ps:List Pl),UN w base vs ps->UN w' base vs ps
 | [],[],_=>trivial
 | _::vs,_::ps,h=>⟨s.pl h.1,s.pls vs ps h.2⟩
 | [],_::_,h=>h.elim
 | _::_,[],h=>h.elim
theorem UN.app{w:World}{base:Nat}{c:List Value}{p:Pl}(hp:PlV w base c p):∀(vs:List (List Value))(ps:List Pl),UN w base vs ps->UN w base (vs++[c]) (ps++[p])
 | [],[],_=>⟨hp,trivial⟩
 | _::vs,_::ps,h=>⟨h.1,UN.app hp vs ps h.2⟩
 | [],_::_,h=>h.elim
 | _::_,[],h=>h.elim
def Nw(w:World)(base:Nat)(v:Value)(way:List Pl):Prop:=
 ∃vs,w.ownsRow base 227 7 v way.length (vs.flatten)/\UN w base vs way
theorem Nw.nil(w:World)(base:Nat):Nw w base (.slice none 0 0) []:=⟨[],World.ownsRow_nil _ _ _ _,trivial⟩
theorem Nw.app{w w':World}{base:Nat}{v':Value}{way:List Pl}{vs:List (List Value)}{c:List Value}{p:Pl}(h:UN w base vs way)(hp:PlV w base c p)(s:CQ 227 w w')
 (ho:w'.ownsRow base 227 7 v' (way.length+1) (vs.flatten++c)):Nw w' base v' (way++[p]):=
 ⟨vs++[c],by simpa using ho,(s.pls vs way h).app (s.pl hp)⟩
def PI(w:World)(base:Nat)(A:Option Addr)(l:List UInt8):Prop:=
 Bs w A l.length l/\∀g off,A=some ⟨g,off,none⟩->base<=g/\∃cs fz,w.heap[g]? =some (.cells cs 5 fz)
theorem CQ.rs{w w':World}{base:Nat}{A:Option Addr}{l:List UInt8}(s:CQ 227 w w')(h:PI w base A l):PI w' base A l:=by
 have key:∀g off,A=some ⟨g,off,none⟩->w'.heap[g]? =w.heap[g]? :=fun g off e=>by
  obtain⟨_,cs,fz,hg⟩:=h.2 g off e;rcases s.2 g (Az.1 hg).1 with⟨cs',fz',h'⟩| h'
  ·rw [hg]at h';injection h' with h';injection h' with _ h'';exact absurd h'' (by decide)
  ·exact h'
 refine⟨⟨h.1.1,fun hn=> ?_⟩,fun g off e=> ?_⟩
 ·obtain⟨b,off,e,hb,hc⟩:=h.1.2 hn;exact⟨b,off,e,Cb hb s.1,fun j hj=>(World.cell?_of_block (w:=w) (key b off e)).trans (hc j hj)⟩
 ·obtain⟨h1,cs,fz,hg⟩:=h.2 g off e;exact⟨h1,cs,fz,(key g off e).trans hg⟩
theorem PI.LY{w:World}{base n c:Nat}{A:Option Addr}{l:List UInt8}(h:w.ownsRow base 5 1 (.slice A n c) n (l.map bv))(hn:n=l.length):PI w base A l:=by
 subst hn;refine⟨(Cj h).2,fun g off e=> ?_⟩;rcases h.2 with⟨h1,_⟩| ⟨g',cap,cur,h1,h2,h3,_⟩
 ·simp only [Value.slice.injEq]at h1;rw [h1.1]at e;cases e
 ·simp only [Value.slice.injEq]at h1;rw [h1.1]at e;injection e with e;injection e with e1 e2;subst e1;exact⟨h2,_,_,h3⟩
theorem PI.drop{w:World}{base g off:Nat}{l:List UInt8}(h:PI w base (some ⟨g,off,none⟩) l)(k:Nat)(hk:k<=l.length):PI w base (some ⟨g,off+k,none⟩) (l.drop k):=by
 refine⟨⟨by simp,fun hn=> ?_⟩,fun g' off' e=> ?_⟩
 ·simp only [AO]at hn;obtain⟨b,off',e,hb,hc⟩:=h.1.2 (by omega);injection e with e;injection e with e1 e2;subst e1 e2
  refine⟨_,_,rfl,hb,fun j hj=> ?_⟩;simp only [AO]at hj;rw [Nat.add_assoc,hc (k+j) (by omega),List.map_drop,List.getElem?_drop]
 ·injection e with e;injection e with e1 e2;subst e1
  exact h.2 _ _ rfl
theorem PI.cut{w:World}{base b off c:Nat}{l:List UInt8}(h:PI w base (some ⟨b,off,none⟩) l)(k:Nat)(hk:k<=l.length)(hc:l.length<=c):PI w base (if c=k then some ⟨b,off,none⟩else some ⟨b,off+k,none⟩) (l.drop k):=by
 split
 ·refine⟨⟨by simp,fun hn=> ?_⟩,h.2⟩;simp only [AO]at hn;omega
 ·exact h.drop k hk
theorem Kept.trans'{a b c:World}{r:Option Nat}(h:Kept a b r)(k:Kept b c r):Kept a c r:=
 ⟨Bf h.1 k.1,fun j hj hr=>(k.2 j (Cb hj h.1) hr).trans (h.2 j hj hr)⟩
theorem Kept.of_below{a b:World}{r:Option Nat}(h:Below a.heap.size a b):Kept a b r:=⟨h.size,fun j hj _=>h.block j hj⟩
theorem Kept.AU(w:World)(g i:Nat)(u:Value):Kept w (w.setCell ⟨g,i,none⟩ u) (some g):=
 ⟨by simp [Du,Oq],fun j _ hr=>by simp only [Du,Qk];rw [if_neg (fun e=>hr (by rw [e]))]⟩
theorem ED{w w':World}{base k n:Nat}{e:TypeId}{v:Value}{xs:List Value}{r:Option Nat}(h:w.ownsRow base e k v n xs)(hk:Kept w w' r)(hn:r≠v.ownBlock\/v.ownBlock=none):w'.ownsRow base e k v n xs:=by
 refine⟨h.1,?_⟩
 rcases h.2 with h1| ⟨g,cap,cur,h1,h2,h3,h4⟩
 ·exact .inl h1
 ·refine .inr ⟨g,cap,cur,h1,h2,?_,h4⟩
  subst h1
  rw [hk.2 g (Az.1 h3).1 (fun e=>by rcases hn with hn| hn
                                    ·exact hn (by rw [<-e];rfl)
                                    ·simp [AX]at hn)]
  exact h3
def lenOf:Value->Nat
 | .slice _ n _=>n
 | _=>0
def jD(s:St)(key:List UInt8)(w:World)(e:Ending)(w':World):Prop:=
 Below w.heap.size w w'/\match Gi s key with
  | none=>e= .returned (.tuple #[.slice none 0 0,.slice none 0 0,.int .i64 5])
  | some (way,rest)=>∃vw A c,e= .returned (.tuple #[vw,.slice A rest.length c,.int .i64 0])/\Nw w' w.heap.size vw way/\PI w' w.heap.size A rest/\rest.length<=c
theorem XU(l:List UInt8):(Di l).length=2*l.length:=by
 induction l with
 | nil=>rfl
 | cons a t ih=>simp [Di]at ih⊢;omega
def Aa5(s:St)(_:Nat)(key:List UInt8)(w:World)(pb:Nat)(u7 u8 u10:Value)(wr:World):Prop:=
 ∃(f:Nat)(A:Option Addr)(c:Nat)(rest:List UInt8)(name:UInt64)(label:UInt8)(word:Int)(way:List Pl)(a0 a1 a2 a3 a4:Value),
  u7= .slice A rest.length c/\u8= .int .u64 (name.toNat:Int)/\Ee s f name rest label word way=Gi s key/\rest.length<f/\rest.length<=c/\way.length+rest.length<=2*key.length/\
  BI wr pb 227 [a0,a1,a2,a3,a4,.int .u8 (label.toNat:Int),.int .i64 word]/\Nw wr w.heap.size u10 way/\(some pb≠u10.ownBlock)/\PI wr w.heap.size A rest/\Below w.heap.size w wr
theorem ZW(l:List UInt64):(EE l).kids.length<=16/\(EE l).labels.length<=16:=by
 unfold EE;split
 ·unfold zS IA
  dsimp only
  split<;>simp [digits_length]<;>omega
 ·unfold nO;have:=Xf ((l.drop 4).take 16);simp at this;simp [NL];omega
theorem EY{s:St}{name:UInt64}{nd:Nd}(h:ER s name=some nd):nd.pre.length<=15/\nd.kids.length<=16/\nd.labels.length<=16:=by
 unfold ER at h;split at h
 ·cases h
 ·split at h
  ·rename_i hd;injection h with h
   subst h;refine⟨?_,(ZW _).1,(ZW _).2⟩;unfold Iz at hd;simp only [Bool.and_eq_true]at hd;exact((Bg _).1 hd.2.1).1
  ·cases h
theorem En{w:World}{g:Nat}{e:TypeId}{a b c d k l m:Value}(h:BI w g e [a,b,c,d,k,l,m]):w.cell? ⟨g,0,none⟩=some a/\w.cell? ⟨g,1,none⟩=some b/\w.cell? ⟨g,2,none⟩=some c/\w.cell? ⟨g,3,none⟩=some d/\w.cell? ⟨g,4,none⟩=some k/\w.cell? ⟨g,5,none⟩=some l/\w.cell? ⟨g,6,none⟩=some m:=
 ⟨h.cell 0,h.cell 1,h.cell 2,h.cell 3,h.cell 4,h.cell 5,h.cell 6⟩
theorem wrap64(a:Int)(h1: -9223372036854775808<=a)(h2:a<9223372036854775808):IntKind.i64.wrap a=a:=by
 simp only [IntKind.wrap,IntKind.bits,IntKind.signed,Bool.true_and,decide_eq_true_eq,show(2:Int)^(64-1)=9223372036854775808 from rfl,show(2:Int)^64=18446744073709551616 from rfl];split<;>omega
theorem Q7{len:Mode}{w:World}{x d p L:Nat}{s:St}{F:Nat->Prop}(h:Nv len w x d p L s F){name:UInt64}{nd:Nd}(hr:ER s name=some nd):0<=Be name/\Be name<=65536:=by
 obtain⟨l0,l1,ok,Fp⟩:=h.L0;unfold ER at hr;split at hr
 ·cases hr
 ·rename_i h0;obtain⟨i,a,hi,ho,hk,hf⟩:=Ul h0;rw [ho];have:=ok.fits;rw [Fp]at hi;rcases hk with k| k<;>rw [k]at hf⊢<;>omega
theorem xe{nd:Nd}{lab:UInt8}{kid:UInt64}{number:Nat}(h:Oe nd lab=some (kid,number)):Wp nd lab= .tuple #[.int .u64 (kid.toNat:Int),.int .i64 (number:Int),.bool true]:=by
 unfold Oe JR at h;unfold Wp;split at h
 ·rename_i i hi;rw [hi];split at h
  ·rename_i hr;injection h with h
   injection h with h1 h2
   subst h1 h2;simp only [hr,if_true];split<;>rfl
  ·cases h
 ·cases h
theorem xg{nd:Nd}{lab:UInt8}(h:Oe nd lab=none):Wp nd lab= .tuple #[.int .u64 0,.int .i64 0,.bool false]:=by
 unfold Oe JR at h;unfold Wp;split at h
 ·rename_i i hi;rw [hi];split at h
  ·cases h
  ·rename_i hr;simp only [hr];rfl
 ·rename_i hi;rw [hi]
theorem pV{nd:Nd}{lab:UInt8}{kid:UInt64}{number:Nat}(h:Oe nd lab=some (kid,number))(hk:nd.labels.length<=16):number<=300:=by
 unfold Oe JR at h;have:=lab.toNat_lt;split at h
 ·rename_i i hi;have hil:=(Kw.1 hi).1;split at h
  ·injection h with h
   injection h with h1 h2
   subst h2;split<;>omega
  ·cases h
 ·cases h
theorem Ag7{w:World}{base n1 c1 n2 c2 n3 c3:Nat}{A1 A2 A3:Option Addr}{x:Nd}(h:VH w base (.agg #[.slice A1 n1 c1,.int .u64 (x.val.toNat:Int),.slice A2 n2 c2,.slice A3 n3 c3]) x)(b1:n1<=1000000)(b2:n2<=1000000)(b3:n3<=1000000)(label:UInt8):
 Calls Tryz.prog 174 #[.agg #[.slice A1 n1 c1,.int .u64 (x.val.toNat:Int),.slice A2 n2 c2,.slice A3 n3 c3],.int .u8 (label.toNat:Int)] w fun e w'=>e= .returned (Wp x label)/\Below w.heap.size w w':=by
 obtain⟨_,_,_,_,_,_,e,p1,p2,p3⟩:=h;simp only [Value.agg.injEq]at e;simp at e;obtain⟨⟨rfl,rfl,rfl⟩,⟨rfl,rfl,rfl⟩,⟨rfl,rfl,rfl⟩⟩:=e;exact Aab _ _ _ _ _ _ _ _ _ x label w b1 b2 b3 (Cj p1).2 (Cj p2).2 (Cj p3).2
section
variable{len:Mode}{w w':World}{x d p L:Nat}{s:St}{F:Nat->Prop}
theorem J7 (h : Nv len w x d p L s F) (key : ByteArray) (hk : key.size <= 1000) : Calls Tryz.prog 135 #[.pointer (some ⟨x, 0, none⟩), .string key] w (jD s key.data.toList w) := by
  have HX := Aa h
  have HOf := Aa (Agr key w (by omega))
  have gJ := Aa (fun (W : World) (hW : Below w.heap.size w W) => XR (HX.out.below hW))
  have zA := Aa (fun (W : World) (hW : Below w.heap.size w W) => J6 (HX.out.below hW))
  have Akl := h.box.lt
  clear h
  go_enter Tryz.func135, Tryz.ntmps135
  go_wp2_with fail
  refine HOf.out.mono ?_
  rintro e w1 ⟨v, rfl, ho, hb1⟩
  obtain ⟨A, c, rfl, hc, hr⟩ := CP ho
  have wU := Aa ho
  clear HOf ho hr
  go_wp2_with fail
  refine (gJ.out w1 hb1).mono ?_
  rintro e w2 ⟨rfl, hb2⟩
  have QW := Aa (own_below wU.out hb2)
  have hb2' := hb1.trans (hb2.mono hb1.size)
  clear wU hb1 hb2 gJ
  go_wp2_with fail
  obtain ⟨W0, hW0⟩ : ∃ W0, W0 = w2.alloc (.cells #[.slice none 0 0, .int .u64 0, .slice none 0 0, .slice none 0 0, .int .i64 0, .int .u8 0, .int .i64 72] 227) := ⟨_, rfl⟩
  have al : Below w2.heap.size w2 W0 := by rw [hW0]; exact (Below.refl _ _).alloc (Ae _) _
  have BP : BI W0 w2.heap.size 227 [.slice none 0 0, .int .u64 0, .slice none 0 0, .slice none 0 0, .int .i64 0, .int .u8 0, .int .i64 72] := by rw [hW0]; exact heap_alloc_new _ _
  have hb0 : Below w.heap.size w W0 := hb2'.trans (al.mono hb2'.size)
  have hR0 := PI.LY (own_below QW.out al) (by rw [XU]; simp)
  rw [<- hW0]
  have hlen : (Di key.data.toList).length = 2 * key.size := by rw [XU]; simp
  have hpb := hb2'.size
  obtain ⟨pb, Akm⟩ : ∃ pb, w2.heap.size = pb := ⟨_, rfl⟩
  rw [Akm] at BP hpb ⊢
  have HAt : Hid (Aa5 s L key.data.toList w pb (.slice A (2 * key.size) c) (.int .u64 ((s.ws 9).toNat : Int)) (.slice none 0 0) W0) :=
    Aa ⟨2 * key.size + 1, A, c, Di key.data.toList, s.ws 9, 0, 72, [], _, _, _, _, _, by rw [hlen], rfl, by simp [Gi], by omega, by omega, by simp [hlen], BP, Nw.nil _ _, by simp [AX], hR0, hb0⟩
  clear hW0 al BP hb0 hR0 QW hlen hc hb2' Akm
  go_loopw [7, 8, 10] (fun u7 u8 u10 wr => Aa5 s L key.data.toList w pb u7 u8 u10 wr) (fun u7 _ _ _ => lenOf u7)
  case atStart => exact HAt.out
  case round =>
    clear HAt
    obtain ⟨f, A, c, rest, name, label, word, way, a0, a1, a2, a3, a4, rfl, rfl, hgo, hf, hcap, hlen, hB, Jq, hne, hrs, hbw⟩ := hrel
    obtain ⟨f, rfl⟩ : ∃ f', f = f' + 1 := ⟨f - 1, by omega⟩
    have hpn := hB.lt
    have HB := Aa hB
    have Ag8 := Aa Jq
    have HNe := Aa hne
    have HRs := Aa hrs
    have pW := Aa hgo
    have jC := Aa hbw
    have HLe := Aa (And.intro hf (And.intro hcap hlen))
    clear hB Jq hne hrs hgo hbw hf hcap hlen
    by_cases hz : name = 0
    · have HR : Hid (Gi s key.data.toList = some (way, rest)) := Aa (by rw [<- pW.out, Ee, if_pos hz])
      have t0 : (((name.toNat : Nat) : Int) == 0) = true := by subst hz; rfl
      clear pW
      go_wp2_with fail
      refine bodyPost_ret (v := .tuple #[u10, .slice A rest.length c, .int .i64 0]) (by simp [results, Tryz.results135, go_sem]) rfl ?_
      refine ⟨jC.out, ?_⟩
      rw [HR.out]
      exact ⟨_, A, c, rfl, Ag8.out, HRs.out, HLe.out.2.1⟩
    · have t0 : (((name.toNat : Nat) : Int) == 0) = false := by
        rw [beq_eq_false_iff_ne]; intro e; apply hz
        exact UInt64.toNat_inj.1 (by have : name.toNat = 0 := by omega
                                     rw [this]; rfl)
      have f4 := HB.out.frozen 4
      have z4 := HB.out.cell 4
      simp only [Af, Ad] at z4
      have hwr : IntKind.i64.wrap (name.toNat : Int) = Be name := rfl
      go_wp2_with fail
      have B1 := HB.out.AU 4 (Aw .i64 (Be name))
      have s1 := CQ.AU HB.out 4 (Aw .i64 (Be name))
      have k1 := Kept.AU wr pb 4 (Aw .i64 (Be name))
      have Ag9 := jC.out.setCell (p := ⟨pb, 4, none⟩) hpb (Aw .i64 (Be name))
      have hsz1 : w.heap.size <= wr.heap.size := jC.out.size
      generalize wr.setCell ⟨pb, 4, none⟩ (Aw .i64 (Be name)) = W1 at *
      have S1 := Aa s1
      replace B1 : BI W1 pb 227 [a0, a1, a2, a3, .int .i64 (Be name), .int .u8 (label.toNat : Int), .int .i64 word] := B1
      have hsz2 : w.heap.size <= W1.heap.size := Bf hsz1 s1.1
      clear f4 z4 hwr s1
      refine (zA.out W1 Ag9 name).mono ?_
      rintro e w3 ⟨hb3, hpost⟩
      have S3 := Aa (S1.out.trans (CQ.of_below hb3))
      have K3 := Aa (k1.trans' (Kept.of_below hb3))
      clear k1
      have B3 := B1.below hb3 B1.lt
      have hbw3 := Ag9.trans (hb3.mono hsz2)
      have hsz3 : w.heap.size <= w3.heap.size := Bf hsz2 hb3.size
      clear B1 Ag9 hb3 S1
      cases hrd : ER s name with
      | none =>
        rw [hrd] at hpost
        dsimp only at hpost
        subst hpost
        have HR : Hid (Gi s key.data.toList = none) := Aa (by rw [<- pW.out, Ee, if_neg hz, hrd])
        have f0 := B3.frozen 0
        have f1 := B3.frozen 1
        have f2 := B3.frozen 2
        have f3 := B3.frozen 3
        have z0 := B3.cell 0
        have z1 := B3.cell 1
        have z2 := B3.cell 2
        have z3 := B3.cell 3
        simp only [Af, Ad] at z0 z1 z2 z3
        clear hrd pW
        go_wp2_with fail
        refine bodyPost_ret (v := .tuple #[.slice none 0 0, .slice none 0 0, .int .i64 5]) (by simp [results, Tryz.results135, go_sem]) rfl ?_
        refine ⟨(((hbw3.setCell (p := ⟨pb, 0, none⟩) hpb _).setCell (p := ⟨pb, 1, none⟩) hpb _).setCell (p := ⟨pb, 2, none⟩) hpb _).setCell (p := ⟨pb, 3, none⟩) hpb _, ?_⟩
        rw [HR.out]
      | some nd =>
        rw [hrd] at hpost
        dsimp only at hpost
        obtain ⟨v, rfl, A1, c1, A2, c2, A3, c3, rfl, o1, o2, o3⟩ := hpost
        have HNd := Aa (show VH w3 w.heap.size (.agg #[.slice A1 nd.pre.length c1, .int .u64 (nd.val.toNat : Int), .slice A2 nd.labels.length c2, .slice A3 nd.kids.length c3]) nd from VH.mono ⟨A1, c1, A2, c2, A3, c3, rfl, o1, o2, o3⟩ hsz2)
        have Aha := Aa hrd
        clear hrd o1 o2 o3
        have f0 := B3.frozen 0
        have f1 := B3.frozen 1
        have f2 := B3.frozen 2
        have f3 := B3.frozen 3
        have z0 := B3.cell 0
        have z1 := B3.cell 1
        have z2 := B3.cell 2
        have z3 := B3.cell 3
        have z4 := B3.cell 4
        have z5 := B3.cell 5
        have z6 := B3.cell 6
        simp only [Af, Ad] at z0 z1 z2 z3 z4 z5 z6
        obtain ⟨vs, hvo, hvp⟩ := Ag8.out
        have B5 := (((B3.AU 0 (Ac A1 nd.pre.length c1)).AU 1 (Aw .u64 (nd.val.toNat : Int))).AU 2 (Ac A2 nd.labels.length c2)).AU 3 (Ac A3 nd.kids.length c3)
        have jE := (((hbw3.setCell (p := ⟨pb, 0, none⟩) hpb (Ac A1 nd.pre.length c1)).setCell (p := ⟨pb, 1, none⟩) hpb (Aw .u64 (nd.val.toNat : Int))).setCell (p := ⟨pb, 2, none⟩) hpb (Ac A2 nd.labels.length c2)).setCell (p := ⟨pb, 3, none⟩) hpb (Ac A3 nd.kids.length c3)
        have S5 := S3.out.trans ((((CQ.AU B3 0 (Ac A1 nd.pre.length c1)).trans (CQ.AU (B3.AU 0 _) 1 (Aw .u64 (nd.val.toNat : Int)))).trans (CQ.AU ((B3.AU 0 _).AU 1 _) 2 (Ac A2 nd.labels.length c2))).trans (CQ.AU (((B3.AU 0 _).AU 1 _).AU 2 _) 3 (Ac A3 nd.kids.length c3)))
        have K5 := K3.out.trans' ((((Kept.AU _ pb 0 (Ac A1 nd.pre.length c1)).trans' (Kept.AU _ pb 1 (Aw .u64 (nd.val.toNat : Int)))).trans' (Kept.AU _ pb 2 (Ac A2 nd.labels.length c2))).trans' (Kept.AU _ pb 3 (Ac A3 nd.kids.length c3)))
        have HV5 := Aa (ED hvo K5 (.inl HNe.out))
        have Ahb := Aa (((((CQ.AU B3 0 (Ac A1 nd.pre.length c1)).trans (CQ.AU (B3.AU 0 _) 1 (Aw .u64 (nd.val.toNat : Int)))).trans (CQ.AU ((B3.AU 0 _).AU 1 _) 2 (Ac A2 nd.labels.length c2))).trans (CQ.AU (((B3.AU 0 _).AU 1 _).AU 2 _) 3 (Ac A3 nd.kids.length c3))).nd HNd.out)
        have HS5 := Aa S5
        have Ou := Aa B5
        have Akn := Aa jE
        have HP5 := Aa (HS5.out.pls vs way hvp)
        have hw5 := jE.size
        have hmm : way.length <= 1000000 := by have := HLe.out; simp at this; omega
        clear S5 K5 B5 jE hvo hvp
        go_wp2_with (at_builtin; refine DZ rfl (.tmp 42) (.tmp 44) 221 rfl Tryz.Aa4 ((((w3.setCell ⟨pb, 0, none⟩ (Ac A1 nd.pre.length c1)).setCell ⟨pb, 1, none⟩ (Aw .u64 (nd.val.toNat : Int))).setCell ⟨pb, 2, none⟩ (Ac A2 nd.labels.length c2)).setCell ⟨pb, 3, none⟩ (Ac A3 nd.kids.length c3)) w.heap.size u10 way.length vs.flatten [Ac A1 nd.pre.length c1, Aw .u64 (nd.val.toNat : Int), Ac A2 nd.labels.length c2, Ac A3 nd.kids.length c3, .int .i64 (Be name), .int .u8 (label.toNat : Int), .int .i64 word] rfl HV5.out rfl w3.heap.size 1 rfl (by simp [Du, Oq]) rfl (by decide) (by simp [Value.oneCell']) hmm (by decide) hw5 ?_; intro g6 c6 w6 XQ QV hK6 gK; have B6 := (hK6.2 pb Ou.out.lt HNe.out).trans Ou.out; obtain ⟨y0, y1, y2, y3, y4, y5, y6⟩ := En B6)
        have s6 := CQ.kept HV5.out hK6
        have NH : Hid (BI w6 pb 227 [.slice A1 nd.pre.length c1, .int .u64 (nd.val.toNat : Int), .slice A2 nd.labels.length c2, .slice A3 nd.kids.length c3, .int .i64 (Be name), .int .u8 (label.toNat : Int), .int .i64 word]) := Aa B6
        have HW6 := Aa (Nw.app HP5.out (p := ⟨nd, Be name, label, word⟩) ⟨_, _, _, _, rfl, Ahb.out⟩ s6 XQ)
        have Ahc := Aa ((HS5.out.trans s6).rs HRs.out)
        have Ahd := Aa (s6.nd Ahb.out)
        have Ahe := Aa (Akn.out.trans QV)
        have Ako : Hid (pb ≠ g6) := Aa (fun e => by
          rcases gK with h6 | h6
          · exact HNe.out (by rw [h6, e])
          · have := Ou.out.lt; omega)
        clear s6 B6 XQ QV hK6 gK HV5 HP5 Ahb HS5 Ou Akn Ag8 HRs HB HNe jC HNd S3 K3 B3 hbw3 f0 f1 f2 f3 z0 z1 z2 z3 z4 z5 z6 hw5
        obtain ⟨b1, b2, b3⟩ := EY Aha.out
        obtain ⟨kk, hkk⟩ : ∃ kk, kk = common nd.pre rest := ⟨_, rfl⟩
        have hrl : rest.length <= 4294967296 := by have := HLe.out; simp at this; omega
        refine (KO A1 A nd.pre.length rest.length c1 c nd.pre rest w6 (by omega) hrl (by obtain ⟨_, _, _, _, _, _, e, p1, _, _⟩ := Ahd.out; simp only [Value.agg.injEq] at e; simp at e; obtain ⟨⟨rfl, rfl⟩, _⟩ := e; exact (Cj p1).2) Ahc.out.1).mono ?_
        rintro e w7 ⟨rfl, hd7⟩
        rw [<- hkk]
        have Aa6 := hd7.below w6.heap.size
        have s7 : CQ 227 w6 w7 := CQ.of_below Aa6
        have B7 := NH.out.below Aa6 NH.out.lt
        have HW7 : Hid (Nw w7 w.heap.size (.slice (some ⟨g6, 0, none⟩) (way.length + 1) c6) (way ++ [⟨nd, Be name, label, word⟩])) := Aa (by
          obtain ⟨vs', q1, q2⟩ := HW6.out
          exact ⟨vs', ED q1 (Kept.of_below (r := none) Aa6) (.inl (by simp [AX])), s7.pls _ _ q2⟩)
        have Aea := Aa (s7.rs Ahc.out)
        have Am3 := Aa (s7.nd Ahd.out)
        have Aa7 := Aa (Ahe.out.trans (Aa6.mono Ahe.out.size))
        have dI := Aa B7
        obtain ⟨y0, y1, y2, y3, y4, y5, y6⟩ := En B7
        have xh : Hid ((if kk < nd.pre.length \/ kk = rest.length then some (way ++ [⟨nd, Be name, label, word⟩], rest) else
            match Oe nd (rest.getD kk 0) with
            | none => some (way ++ [⟨nd, Be name, label, word⟩], rest)
            | some (kid, number) => Ee s f kid (rest.drop (kk + 1)) (rest.getD kk 0) (Be name + 8 * number) (way ++ [⟨nd, Be name, label, word⟩])) = Gi s key.data.toList) := Aa (by
          rw [<- pW.out, Ee, if_neg hz, Aha.out, hkk]
          rfl)
        have HKk := Aa hkk
        clear hd7 Aa6 s7 B7 HW6 Ahc Ahd Ahe NH hkk pW
        by_cases hs : kk < nd.pre.length \/ kk = rest.length
        · have HR : Hid (Gi s key.data.toList = some (way ++ [⟨nd, Be name, label, word⟩], rest)) := Aa (by rw [<- xh.out, if_pos hs])
          have fin : jD s key.data.toList w (.returned (.tuple #[.slice (some ⟨g6, 0, none⟩) (way.length + 1) c6, .slice A rest.length c, .int .i64 0])) w7 := by
            refine ⟨Aa7.out, ?_⟩
            rw [HR.out]
            exact ⟨_, A, c, rfl, HW7.out, Aea.out, HLe.out.2.1⟩
          have HFin := Aa fin
          clear fin HR xh
          by_cases hs1 : kk < nd.pre.length
          · have t1 : decide ((kk : Int) < (nd.pre.length : Int)) = true := decide_eq_true (by omega)
            have t1' : decide (kk < nd.pre.length) = true := decide_eq_true hs1
            clear hs hs1
            go_wp2_with fail
            refine bodyPost_ret (v := .tuple #[.slice (some ⟨g6, 0, none⟩) (way.length + 1) c6, .slice A rest.length c, .int .i64 0]) (by simp [results, Tryz.results135, go_sem]) rfl HFin.out
          · have t1 : decide ((kk : Int) < (nd.pre.length : Int)) = false := decide_eq_false (by omega)
            have t1' : decide (kk < nd.pre.length) = false := decide_eq_false hs1
            have t2 : ((kk : Int) == (rest.length : Int)) = true := by rw [beq_iff_eq]; omega
            have t2' : (kk == rest.length) = true := by rw [beq_iff_eq]; omega
            clear hs hs1
            go_wp2_with fail
            refine bodyPost_ret (v := .tuple #[.slice (some ⟨g6, 0, none⟩) (way.length + 1) c6, .slice A rest.length c, .int .i64 0]) (by simp [results, Tryz.results135, go_sem]) rfl HFin.out
        · have hs1 : ¬ kk < nd.pre.length := fun e => hs (.inl e)
          have hs2 : kk ≠ rest.length := fun e => hs (.inr e)
          have hkl : kk < rest.length := by have := EP nd.pre rest; rw [<- HKk.out] at this; omega
          have Aa8 := Aa xh.out
          rw [if_neg hs] at Aa8
          have t1 : decide ((kk : Int) < (nd.pre.length : Int)) = false := decide_eq_false (by omega)
          have t1' : decide (kk < nd.pre.length) = false := decide_eq_false hs1
          have t2 : ((kk : Int) == (rest.length : Int)) = false := by rw [beq_eq_false_iff_ne]; omega
          have t2' : (kk == rest.length) = false := by rw [beq_eq_false_iff_ne]; exact hs2
          obtain ⟨b, off, rfl, hb, hcs⟩ := Aea.out.1.2 (by omega)
          have hck : w7.cell? ⟨b, off + kk, none⟩ = some (.int .u8 ((rest.getD kk 0).toNat : Int)) := by
            rw [hcs kk hkl, BO, Ag hkl, List.getD_eq_getElem?_getD, Ag hkl]; rfl
          generalize rest.getD kk 0 = lab at *
          clear hcs xh hs hs1 hs2
          have Aeb := Aa (fun (W : World) (hW : Below w7.heap.size w7 W) => Ag7 ((CQ.of_below hW).nd Am3.out) (by omega) (by omega) (by omega) lab)
          have hx1 : (decide ((0 : Int) <= (kk : Int))) = true := decide_eq_true (by omega)
          have hx2 : (decide ((kk : Int) < (rest.length : Int))) = true := decide_eq_true (by omega)
          cases hkd : Oe nd lab with
          | none =>
            have HV := Aa (xg hkd)
            rw [HV.out] at Aeb
            have HR : Hid (Gi s key.data.toList = some (way ++ [⟨nd, Be name, label, word⟩], rest)) := Aa (by rw [<- Aa8.out, hkd])
            clear hkd Aa8
            go_wp2_with fail
            go_region_with (go_at_call 174; go_loud (refine (Aeb.out _ ((Dr.drew _).below _)).mono ?_; rintro e w8 ⟨rfl, hb8⟩))
            all_goals (have XV := ((Dr.drew w7).below w7.heap.size).trans hb8)
            all_goals (have s8 : CQ 227 w7 w8 := CQ.of_below XV)
            all_goals (have HW8 : Hid (Nw w8 w.heap.size (.slice (some ⟨g6, 0, none⟩) (way.length + 1) c6) (way ++ [⟨nd, Be name, label, word⟩])) := Aa (by
              obtain ⟨vs', q1, q2⟩ := HW7.out
              exact ⟨vs', ED q1 (Kept.of_below (r := none) XV) (.inl (by simp [AX])), s8.pls _ _ q2⟩))
            all_goals (have Aec := Aa (s8.rs Aea.out))
            all_goals (have Aed := Aa (Aa7.out.trans (XV.mono Aa7.out.size)))
            all_goals (clear XV s8 hb8)
            all_goals (go_wp2_with fail)
            all_goals (refine bodyPost_ret (v := .tuple #[.slice (some ⟨g6, 0, none⟩) (way.length + 1) c6, .slice (some ⟨b, off, none⟩) rest.length c, .int .i64 0]) (by simp [results, Tryz.results135, go_sem]) rfl ?_)
            all_goals (refine ⟨Aed.out, ?_⟩)
            all_goals (rw [HR.out])
            all_goals (exact ⟨_, _, c, rfl, HW8.out, Aec.out, HLe.out.2.1⟩)
          | some kn =>
            obtain ⟨kid, number⟩ := kn
            have HV := Aa (xe hkd)
            rw [HV.out] at Aeb
            have hnum := pV hkd b3
            have Am4 : Hid (Ee s f kid (rest.drop (kk + 1)) lab (Be name + 8 * number) (way ++ [⟨nd, Be name, label, word⟩]) = Gi s key.data.toList) := Aa (by rw [<- Aa8.out, hkd])
            have hw1 : IntKind.i64.wrap (8 * (number : Int)) = 8 * (number : Int) := wrap64 _ (by omega) (by omega)
            have hro := Q7 HX.out Aha.out
            have hw2 : IntKind.i64.wrap (Be name + 8 * (number : Int)) = Be name + 8 * (number : Int) := wrap64 _ (by omega) (by omega)
            have hw3 : IntKind.i64.wrap ((kk : Int) + 1) = (kk : Int) + 1 := wrap64 _ (by omega) (by have := HLe.out; simp at this; omega)
            clear hro
            clear hkd Aa8
            go_wp2_with fail
            go_region_with (go_at_call 174; go_loud (refine (Aeb.out _ ((Dr.drew _).below _)).mono ?_; rintro e w8 ⟨rfl, hb8⟩))
            all_goals (have XV := ((Dr.drew w7).below w7.heap.size).trans hb8)
            all_goals (have s8 : CQ 227 w7 w8 := CQ.of_below XV)
            all_goals (have HW8 : Hid (Nw w8 w.heap.size (.slice (some ⟨g6, 0, none⟩) (way.length + 1) c6) (way ++ [⟨nd, Be name, label, word⟩])) := Aa (by
              obtain ⟨vs', q1, q2⟩ := HW7.out
              exact ⟨vs', ED q1 (Kept.of_below (r := none) XV) (.inl (by simp [AX])), s8.pls _ _ q2⟩))
            all_goals (have Aec := Aa (s8.rs Aea.out))
            all_goals (have Aed := Aa (Aa7.out.trans (XV.mono Aa7.out.size)))
            all_goals (have KC := Aa (dI.out.below XV dI.out.lt))
            all_goals (have Am5 := (XV.cell (p := ⟨b, off + kk, none⟩) hb).trans hck)
            all_goals (clear XV s8 hb8)
            all_goals (clear hck y0 y1 y2 y3 y4 y5 y6)
            all_goals (obtain ⟨y0, y1, y2, y3, y4, y5, y6⟩ := En KC.out)
            all_goals (have f5 := KC.out.frozen 5)
            all_goals (have f6 := KC.out.frozen 6)
            all_goals (go_wp2_with fail)
            all_goals (go_region)
            all_goals (have B9 := (KC.out.AU 5 (Aw .u8 (lab.toNat : Int))).AU 6 (Aw .i64 (Be name + 8 * (number : Int))))
            all_goals (have s9 := (CQ.AU KC.out 5 (Aw .u8 (lab.toNat : Int))).trans (CQ.AU (KC.out.AU 5 (Aw .u8 (lab.toNat : Int))) 6 (Aw .i64 (Be name + 8 * (number : Int)))))
            all_goals (have k9 := (Kept.AU w8 pb 5 (Aw .u8 (lab.toNat : Int))).trans' (Kept.AU _ pb 6 (Aw .i64 (Be name + 8 * (number : Int)))))
            all_goals (have Akp := (Aed.out.setCell (p := ⟨pb, 5, none⟩) hpb (Aw .u8 (lab.toNat : Int))).setCell (p := ⟨pb, 6, none⟩) hpb (Aw .i64 (Be name + 8 * (number : Int))))
            all_goals (have hd9 := (Dr.drew ((w8.setCell ⟨pb, 5, none⟩ (Aw .u8 (lab.toNat : Int))).setCell ⟨pb, 6, none⟩ (Aw .i64 (Be name + 8 * (number : Int))))).below w.heap.size)
            all_goals (obtain ⟨W9, U5⟩ : ∃ W9, W9 = World.drew ((w8.setCell ⟨pb, 5, none⟩ (Aw .u8 (lab.toNat : Int))).setCell ⟨pb, 6, none⟩ (Aw .i64 (Be name + 8 * (number : Int)))) := ⟨_, rfl⟩)
            all_goals (have HW9 : Hid (Nw W9 w.heap.size (.slice (some ⟨g6, 0, none⟩) (way.length + 1) c6) (way ++ [⟨nd, Be name, label, word⟩])) := Aa (by
              obtain ⟨vs', q1, q2⟩ := HW8.out
              rw [U5]
              exact ⟨vs', ED q1 k9 (.inl (by simp [AX, Ako.out])), (s9.trans (CQ.of_below ((Dr.drew _).below _))).pls _ _ q2⟩))
            all_goals (have Am6 : Hid (PI W9 w.heap.size (some ⟨b, off, none⟩) rest) := Aa (by rw [U5]; exact s9.rs Aec.out))
            all_goals (have Akq : Hid (Below w.heap.size w W9) := Aa (by rw [U5]; exact Akp.trans hd9))
            all_goals (have dQ : Hid (BI W9 pb 227 [.slice A1 nd.pre.length c1, .int .u64 (nd.val.toNat : Int), .slice A2 nd.labels.length c2, .slice A3 nd.kids.length c3, .int .i64 (Be name), .int .u8 (lab.toNat : Int), .int .i64 (Be name + 8 * (number : Int))]) := Aa (by rw [U5]; exact B9))
            all_goals (rw [<- U5])
            all_goals (clear B9 s9 k9 Akp hd9 U5 KC HW8 Aec Aed y0 y1 y2 y3 y4 y5 y6 f5 f6 Am5)
            all_goals (go_wp2_with fail)
            all_goals (go_quiet (fail))
            all_goals (have ⟨hLf, hLc, hLl⟩ := HLe.out)
            all_goals (go_roundw)
            all_goals first
              | (case measure => (simp [lenOf]; omega))
              | (case rel =>
                 refine ⟨_, _, _, _, _, _, _, _, _, _, _, _, _, _, _, _, _, _, _, _, _, _, _, _, _, _, _, _, _, _, _, _, _, _, _, _, _, _, _, _, _, _, _, _, _, _, _, _, _, _, _, _, _, _, _, _, _, _, _, _, _, _, _, _, _, _, _, _, _, _, _, _, _, _, _, _, ?_, rfl⟩
                 refine ⟨f, (if c = kk + 1 then some ⟨b, off, none⟩ else some ⟨b, off + (kk + 1), none⟩), c - (kk + 1), rest.drop (kk + 1), kid, lab, Be name + 8 * (number : Int), way ++ [⟨nd, Be name, label, word⟩], _, _, _, _, _, (by rw [AO]), rfl, Am4.out, (by rw [AO]; omega), (by rw [AO]; omega), (by rw [AQ, AO]; simp only [List.length_singleton]; omega), dQ.out, ?_, (by simp [AX, Ako.out]), Am6.out.cut (kk + 1) (by omega) hLc, ?_⟩
                 · first
                   | (have hww := HW9.out; rw [AQ]; exact hww)
                   | exact HW9.out
                   | (obtain ⟨vs', q1, q2⟩ := HW9.out; exact ⟨vs', q1, (CQ.of_below ((Dr.one W9 _).below _)).pls _ _ q2⟩)
                 · first
                   | exact Akq.out
                   | exact Akq.out.trans ((Dr.one _ _).below _))
end
structure xk(L:Nat)(pl:Pl):Prop where
 word:∃j:Nat,pl.word=((8*j:Nat):Int)/\j<8*L
 off:∃o:Nat,pl.off=((8*o:Nat):Int)/\o+8<=8*L
 right:Cc pl.nd=true
 kids:pl.nd.kids.length<=16
 labels:pl.nd.labels.length<=16
theorem dR{L:Nat}{s:St}(ok:YZ L s.sh)(Fp:s.tk.length=s.sh.BM){name:UInt64}{nd:Nd}(h:ER s name=some nd):
 Cc nd=true/\∃o:Nat,Be name=((8*o:Nat):Int)/\o+(if nd.kids.length<=4 then 8 else 32)<=8*L:=by
 unfold ER at h;split at h
 ·cases h
 ·rename_i h0;obtain⟨i,a,hi,ho,hk,hf⟩:=Ul h0;split at h
  ·rename_i hd;injection h with h
   subst h;have hd':=hd;unfold Iz at hd';simp only [Bool.and_eq_true,decide_eq_true_eq]at hd';have hl:=Ez (EE (wordsAt s.ws ((Be name).toNat/8) (8*AZ (Dz s (Be name)))));rw [hd'.2.2]at hl;have hwl:(wordsAt s.ws ((Be name).toNat/8) (8*AZ (Dz s (Be name)))).length=8*AZ (Dz s (Be name)):=by simp [wordsAt]
   rw [hwl]at hl;refine⟨hd'.2.1,(s.sh.data+1024*i+64*AZ (Dz s (Be name))*a)/8,?_⟩;rw [<-hl];have h1:=ok.fits;have h2:=ok.data;rw [Fp]at hi;clear hl hwl hd' hd h0;generalize AZ (Dz s (Be name))=m at*;generalize Be name=off at*;subst ho;rcases hk with rfl| rfl<;>constructor<;>omega
  ·cases h
theorem Ahf{nd:Nd}{lab:UInt8}{kid:UInt64}{number:Nat}(h:Oe nd lab=some (kid,number)):number<(if nd.kids.length<=4 then 8 else 32):=by
 unfold Oe JR at h;split at h
 ·rename_i i hi;obtain⟨hil,hq,_⟩:=Kw.1 hi;split at h
  ·rename_i hr;obtain⟨_,_,hlk,hn,_⟩:=(Bg _).1 hr;have hlab:lab.toNat<16:=by
    have:=List.all_eq_true.1 hn _ (List.getElem_mem hil);simp only [beq_iff_eq]at hq;unfold DR at this;simp only [decide_eq_true_eq]at this;omega
   injection h with h
   injection h with h1 h2
   subst h2;split
   ·omega
   ·omega
  ·cases h
 ·cases h
theorem ZX{L:Nat}{s:St}(ok:YZ L s.sh)(Fp:s.tk.length=s.sh.BM):∀(f:Nat)(name:UInt64)(rest:List UInt8)(label:UInt8)(word:Int)(way Zd:List Pl)(rest':List UInt8),
 (∃j:Nat,word=((8*j:Nat):Int)/\j<8*L)->(∀pl∈way,xk L pl)->Ee s f name rest label word way=some (Zd,rest')->(∀pl∈Zd,xk L pl)/\rest'.length<=rest.length
 | 0,name,rest,label,word,way,Zd,rest',hw,hp,h=>by
   rw [Ee]at h;injection h with h
   injection h with h1 h2
   subst h1 h2;exact⟨hp,Ae _⟩
 | f+1,name,rest,label,word,way,Zd,rest',hw,hp,h=>by
   rw [Ee]at h;split at h
   ·injection h with h
    injection h with h1 h2
    subst h1 h2;exact⟨hp,Ae _⟩
   ·split at h
    ·cases h
    ·rename_i nd hr;obtain⟨hR,o,ho,hfit⟩:=dR ok Fp hr;obtain⟨b1,b2,b3⟩:=EY hr;have hpl:∀pl∈way++[⟨nd,Be name,label,word⟩],xk L pl:=by
      intro pl hm;rcases AL.1 hm with hm| hm
      ·exact hp pl hm
      ·rw [BD]at hm;subst hm;exact⟨hw,⟨o,ho,by split at hfit<;>omega⟩,hR,b2,b3⟩
     split at h
     ·injection h with h
      injection h with h1 h2
      subst h1 h2;exact⟨hpl,Ae _⟩
     ·split at h
      ·injection h with h
       injection h with h1 h2
       subst h1 h2;exact⟨hpl,Ae _⟩
      ·rename_i kid number hkd;have hk:=Ahf hkd;obtain⟨q1,q2⟩:=ZX ok Fp f kid _ _ _ _ Zd rest' ⟨o+number,by rw [ho];omega,by omega⟩ hpl h;refine⟨q1,?_⟩;rw [AO]at q2;omega
theorem QZ{L:Nat}{s:St}(ok:YZ L s.sh)(l0:1<L)(Fp:s.tk.length=s.sh.BM){key:List UInt8}{way:List Pl}{rest:List UInt8}(h:Gi s key=some (way,rest)):(∀pl∈way,xk L pl)/\rest.length<=2*key.length:=by
 have:=ZX ok Fp _ _ _ _ _ _ _ _ ⟨9,rfl,by omega⟩ (by intro pl h;cases h) h;rw [XU]at this;exact this
theorem Q8:∀(a b:List UInt8),common a b=a.length->common a b=b.length->a=b:=by
 intro a b h1 h2;induction a generalizing b with
 | nil=>cases b with
   | nil=>rfl
   | cons y t=>simp [common]at h2
 | cons x t ih=>cases b with
   | nil=>simp [common]at h1
   | cons y t'=>
     simp only [common]at h1 h2;split at h1
     ·rename_i e;rw [if_pos e]at h2;simp only [BJ]at h1 h2;rw [ih t' (by omega) (by omega)]
      simp_all
     ·simp at h1
def zv(k:Int):Value:= .int .i64 k
structure Oi(w:World)(base jb x d p L:Nat)(j:Jb)(F:Nat->Prop)(v:Value):Prop where
 ix:Ix w x d p L j.s F
 box:BI w jb 235 [.pointer (some ⟨x,0,none⟩),v]
 row:w.ownsRow base 3 1 v j.made.length (j.made.map zv)
 fj:¬F jb
 bj:base<=jb
 bx:x<base
 bt:0<base/\1<base
 mj:v.ownBlock≠some jb
 mF:∀b,v.ownBlock=some b->¬F b
 mb:∀o∈j.made, -9223372036854775808<=o/\o<=9223372036854775807
def FU(w:World)(base jb x d p L:Nat)(j:Jb)(G:Nat->Prop):Prop:=∃F v,Oi w base jb x d p L j F v/\∀b,G b<->(F b\/b=jb\/v.ownBlock=some b)
section
variable{w w':World}{base jb x d p L:Nat}{j:Jb}{F G:Nat->Prop}{v:Value}
theorem Oi.xj(h:Oi w base jb x d p L j F v):x≠jb:=by have:=h.bj;have:=h.bx;omega
theorem Oi.mlt(h:Oi w base jb x d p L j F v):∀b,v.ownBlock=some b->base<=b/\b<w.heap.size:=by
 intro b hb;rcases h.row.2 with⟨h1,_⟩| ⟨g,cap,cur,h1,h2,h3,_⟩
 ·subst h1;simp [AX]at hb
 ·subst h1;simp only [AX,Option.some.injEq]at hb;subst hb;exact⟨h2,(Az.1 h3).1⟩
theorem Oi.mx(h:Oi w base jb x d p L j F v):v.ownBlock≠some x:=fun e=>by have:=(h.mlt x e).1;have:=h.bx;omega
theorem Oi.below(h:Oi w base jb x d p L j F v)(k:Below w.heap.size w w'):Oi w' base jb x d p L j F v:=
 ⟨h.ix.below k,h.box.below k h.box.lt,ED h.row (Kept.of_below (r:=some jb) k) (.inl (fun e=>h.mj e.symm)),h.fj,h.bj,h.bx,h.bt,h.mj,h.mF,h.mb⟩
theorem FU.below(h:FU w base jb x d p L j G)(k:Below w.heap.size w w'):FU w' base jb x d p L j G:=by
 obtain⟨F,v,h,hG⟩:=h;exact⟨F,v,h.below k,hG⟩
theorem FU.lt(h:FU w base jb x d p L j G):∀b,G b->b<w.heap.size:=by
 obtain⟨F,v,h,hG⟩:=h;intro b hb;rcases(hG b).1 hb with h1| rfl| h1
 ·exact h.ix.sys.lt b h1
 ·exact h.box.lt
 ·exact(h.mlt b h1).2
theorem Oi.move(h:Oi w base jb x d p L j F v)(hG:∀b,G b<->(F b\/b=jb\/v.ownBlock=some b)){s':St}{F':Nat->Prop}(hs:Sys w' d p L s' F')(m:AB F F' w w'):
 ∃G',Oi w' base jb x d p L {j with s:=s'} F' v/\(∀b,G' b<->(F' b\/b=jb\/v.ownBlock=some b))/\AB G G' w w':=by
 have hjl:=h.box.lt;refine⟨fun b=>F' b\/b=jb\/v.ownBlock=some b,⟨h.ix.move hs m,h.box.touch m.touch h.fj,GY h.row m.touch h.mF,fun h'=>(m.own _ h').elim h.fj (fun h''=>by omega),h.bj,h.bx,h.bt,h.mj,fun b hb h'=>(m.own _ h').elim (h.mF b hb) (fun h''=>by have:=(h.mlt b hb).2;omega),h.mb⟩,fun _=>Iff.rfl,m.touch.mono (fun b hb=>(hG b).2 (.inl hb)),fun b hb=> ?_⟩;rcases hb with h1| h1
 ·exact(m.own b h1).imp (fun h2=>(hG b).2 (.inl h2)) id
 ·exact .inl ((hG b).2 (.inr h1))
theorem Oi.app(h:Oi w base jb x d p L j F v)(hG:∀b,G b<->(F b\/b=jb\/v.ownBlock=some b)){o:Int}(ho: -9223372036854775808<=o/\o<=9223372036854775807){g c:Nat}{w1:World}
 (hown:w1.ownsRow base 3 1 (.slice (some ⟨g,0,none⟩) (j.made.length+1) c) (j.made.length+1) (j.made.map zv++[zv o]))(hb:Below base w w1)(hk:Kept w w1 v.ownBlock)(hg:v.ownBlock=some g\/w.heap.size<=g):
 ∃G',Oi (w1.setCell ⟨jb,1,none⟩ (.slice (some ⟨g,0,none⟩) (j.made.length+1) c)) base jb x d p L {j with made:=j.made++[o]} F (.slice (some ⟨g,0,none⟩) (j.made.length+1) c)/\
  (∀b,G' b<->(F b\/b=jb\/(Ac (some ⟨g,0,none⟩) (j.made.length+1) c).ownBlock=some b))/\AB G G' w (w1.setCell ⟨jb,1,none⟩ (.slice (some ⟨g,0,none⟩) (j.made.length+1) c)):=by
 have hjl:=h.box.lt;have hxl:=h.ix.box.lt;have hgj:g≠jb:=by
  rintro rfl;rcases hg with e| e
  ·exact h.mj e
  ·omega
 have hgF:¬F g:=by
  intro hf;rcases hg with e| e
  ·exact h.mF g e hf
  ·have:=h.ix.sys.lt g hf;omega
 have t1:Touch (fun b=>v.ownBlock=some b) w w1:=⟨hb.os,hb.tape,hb.output,hk.1,fun b hb' hn=>hk.2 b hb' (fun e=>hn e.symm)⟩;have t2:Touch (fun b=>b=jb\/v.ownBlock=some b) w (w1.setCell ⟨jb,1,none⟩ (.slice (some ⟨g,0,none⟩) (j.made.length+1) c)):=(t1.mono (fun b=> .inr)).setCell (p:=⟨jb,1,none⟩) (.inl (.inl rfl)) _;have htb:∀{b:Nat},b<base->¬(b=jb\/v.ownBlock=some b):=by
  intro b hb' e;rcases e with rfl| e
  ·have:=h.bj;omega
  ·have:=(h.mlt b e).1;omega
 have hs:Sys (w1.setCell ⟨jb,1,none⟩ (.slice (some ⟨g,0,none⟩) (j.made.length+1) c)) d p L j.s F:=h.ix.sys.keep t2 (fun b hb' hn=>hn.elim (fun e=>h.fj (e▸hb')) (fun e=>h.mF b e hb')) (htb h.bt.1) (htb h.bt.2);have hB1:BI w1 jb 235 [.pointer (some ⟨x,0,none⟩),v]:=(hk.2 jb hjl (fun e=>h.mj e.symm)).trans h.box;refine⟨fun b=>F b\/b=jb\/(Ac (some ⟨g,0,none⟩) (j.made.length+1) c).ownBlock=some b,⟨⟨hs,h.ix.box.touch t2 (fun e=>e.elim h.xj h.mx),h.ix.out⟩,hB1.AU 1 _,?_,h.fj,h.bj,h.bx,h.bt,by simp [AX,hgj],?_,?_⟩,fun _=>Iff.rfl,?_⟩
 ·have:=ED hown (Kept.AU w1 jb 1 (.slice (some ⟨g,0,none⟩) (j.made.length+1) c)) (.inl (by simp [AX,Ne.symm hgj]));simpa using this
 ·intro b hb';simp only [AX,Option.some.injEq]at hb';exact hb'▸hgF
 ·intro o' ho';rcases AL.1 ho' with h1| h1
  ·exact h.mb o' h1
  ·rw [BD]at h1;exact h1▸ho
 ·refine⟨t2.mono (fun b hb'=>(hG b).2 (.inr hb')),fun b hb'=> ?_⟩;rcases hb' with h1| h1| h1
  ·exact .inl ((hG b).2 (.inl h1))
  ·exact .inl ((hG b).2 (.inr (.inl h1)))
  ·simp only [AX,Option.some.injEq]at h1;rcases hg with e| e
   ·exact .inl ((hG b).2 (.inr (.inr (h1▸e))))
   ·exact .inr (h1▸e)
theorem AB.out{G':Nat->Prop}(m:AB G G' w w'){b:Nat}(hb:b<w.heap.size)(h:¬G b):¬G' b:=fun h'=>(m.own b h').elim h (fun h''=>by omega)
end
theorem VI:∀(a b:List UInt8),Op.bytesLess a b=false->Op.bytesLess b a=true\/a=b
 | [],[],_=> .inr rfl
 | [],_::_,h=>by simp [Op.bytesLess]at h
 | _::_,[],_=> .inl rfl
 | x::a,y::b,h=>by
   simp only [Op.bytesLess,Bool.or_eq_false_iff,decide_eq_false_iff_not,Bool.and_eq_false_iff,beq_eq_false_iff_ne]at h;obtain⟨h1,h2⟩:=h;simp only [Op.bytesLess,Bool.or_eq_true,decide_eq_true_eq,Bool.and_eq_true,beq_iff_eq,List.cons.injEq];by_cases e:x=y
   ·subst e;have h3:=h2.resolve_left (fun h=>h rfl);rcases VI a b h3 with h4| h4
    ·exact .inl (.inr ⟨rfl,h4⟩)
    ·exact .inr ⟨rfl,h4⟩
   ·refine .inl (.inl ?_);rw [UInt8.lt_iff_toNat_lt]at h1⊢;have:x.toNat≠y.toNat:=fun h=>e (UInt8.toNat_inj.1 h)
    omega
theorem Gw:∀(a:List UInt8),Op.bytesLess a a=false
 | []=>rfl
 | x::a=>by simp [Op.bytesLess,Gw a]
theorem LG:∀(a b c:List UInt8),Op.bytesLess a b=true->Op.bytesLess b c=true->Op.bytesLess a c=true
 | _,[],_,h,_=>by simp [Op.bytesLess]at h
 | _,_::_,[],_,h=>by simp [Op.bytesLess]at h
 | [],_::_,_::_,_,_=>rfl
 | x::a,y::b,z::c,h,k=>by
   simp only [Op.bytesLess,Bool.or_eq_true,decide_eq_true_eq,Bool.and_eq_true,beq_iff_eq]at h k⊢;simp only [UInt8.lt_iff_toNat_lt]at h k⊢;rcases h with h| ⟨rfl,h⟩
   ·rcases k with k| ⟨rfl,k⟩
    ·exact .inl (by omega)
    ·exact .inl h
   ·rcases k with k| ⟨rfl,k⟩
    ·exact .inl k
    ·exact .inr ⟨rfl,LG a b c h k⟩
structure Wr where
 key:ByteArray
 text:ByteArray
 gone:Bool
def Dk(x:Wr):Bool:=decide (x.key.size<=16)&&decide (x.text.size<=40)&&(!x.gone|| decide (x.text.size=0))
def FK(x:Wr)(key:ByteArray):Bool:=Op.bytesLess x.key.toList key.toList
def Gq(s:List Wr)(key:ByteArray):Nat:=s.findIdx fun x=> !FK x key
def gQ(s:List Wr)(key:ByteArray):Bool:=match s[Gq s key]? with
 | some x=>x.key.toList==key.toList
 | none=>false
def XW(s:List Wr):Prop:=s.Pairwise fun a b=>FK a b.key=true
def J8(s:List Wr)(x:Wr):List Wr×Int:=
 if Dk x=false then(s,2)else if gQ s x.key then(s.set (Gq s x.key) x,0)else if 16<=s.length then(s,3)else
 (s.take (Gq s x.key)++x::s.drop (Gq s x.key),0)
theorem XX(s:List Wr)(key:ByteArray):Gq s key<=s.length:=List.findIdx_le_length
theorem jF{s:List Wr}{key:ByteArray}{i:Nat}(hi:i<s.length)(h1:FK s[i] key=false)(h2:∀j(h:j<s.length),j<i->FK s[j] key=true):Gq s key=i/\gQ s key=(s[i].key.toList==key.toList):=by
 have h:Gq s key=i:=by
  unfold Gq;rw [List.findIdx_eq hi];exact⟨by rw [h1];rfl,fun j hj=>by rw [h2 j (by omega) hj];rfl⟩
 refine⟨h,?_⟩;unfold gQ;rw [h,Ag hi]
theorem Aa9{s:List Wr}{key:ByteArray}(h2:∀j(h:j<s.length),FK s[j] key=true):Gq s key=s.length/\gQ s key=false:=by
 have h:Gq s key=s.length:=by
  unfold Gq;rw [List.findIdx_eq_length];intro x hx;obtain⟨j,hj,rfl⟩:=CG hx;rw [h2 j hj];rfl
 refine⟨h,?_⟩;unfold gQ;rw [h,List.getElem?_eq_none (Ae _)]
theorem Aba{s:List Wr}{key:ByteArray}(h:gQ s key=true):Gq s key<s.length:=by
 unfold gQ at h;cases hg:s[Gq s key]? with
 | none=>rw [hg]at h;cases h
 | some x=>exact(List.getElem?_eq_some_iff.1 hg).1
theorem pX{s:List Wr}{key:ByteArray}(j:Nat)(h:j<s.length)(hj:j<Gq s key):FK s[j] key=true:=by
 unfold Gq at hj;have:=List.not_of_lt_findIdx hj;simpa using this
theorem xm{s:List Wr}{key:ByteArray}(h:Gq s key<s.length):FK s[Gq s key] key=false:=by
 have h1:(!FK s[Gq s key] key)=true:=List.findIdx_getElem (xs:=s) (p:=fun x=> !FK x key) (w:=h);cases h2:FK s[Gq s key] key with
 | false=>rfl
 | true=>rw [h2]at h1;cases h1
theorem XW.lt{s:List Wr}(h:XW s){i j:Nat}(hi:i<s.length)(hj:j<s.length)(hij:i<j):FK s[i] s[j].key=true:=by
 unfold XW at h;exact Zu.1 h i j hi hj hij
theorem XW.left{s:List Wr}(h:XW s){key:ByteArray}{i:Nat}(hi:i<s.length)(h1:FK s[i] key=true):∀j(hj:j<s.length),j<i+1->FK s[j] key=true:=fun j hj hji=>by
 by_cases e:j=i
 ·subst e;exact h1
 ·exact LG _ _ _ (h.lt hj hi (by omega)) h1
theorem XW.right{s:List Wr}(h:XW s){key:ByteArray}{i:Nat}(hi:i<s.length)(h1:FK s[i] key=false):∀j(hj:j<s.length),i<=j->FK s[j] key=false:=fun j hj hij=>by
 by_cases e:j=i
 ·subst e;exact h1
 ·cases h2:FK s[j] key with
  | false=>rfl
  | true=>rw [show FK s[i] key=true from LG _ _ _ (h.lt hi hj (by omega)) h2]at h1;cases h1
theorem Aee{s:List Wr}(h:XW s)(x:Wr):XW (J8 s x).1:=by
 unfold J8;split
 ·exact h
 ·split
  ·rename_i h1;have hlt:=Aba h1;have he:s[Gq s x.key].key.toList=x.key.toList:=by
    unfold gQ at h1;rw [Ag hlt]at h1;exact eq_of_beq h1
   generalize Gq s x.key=k at hlt he;unfold XW;rw [Zu];intro i j hi hj hij;simp only [List.length_set]at hi hj;rw [JO,JO];have h0:=h.lt hi hj hij;split
   ·rename_i e1;subst e1;rw [if_neg (by omega)];unfold FK at h0⊢;rw [<-he];exact h0
   ·split
    ·rename_i e1 e2;subst e2;unfold FK at h0⊢;rw [<-he];exact h0
    ·exact h0
  ·split
   ·exact h
   ·rename_i h1 h2;have hi0:gQ s x.key=false:=by simpa using h1
    obtain⟨k,hk⟩:∃k,Gq s x.key=k:=⟨_,rfl⟩;have hle:=XX s x.key;have hl:∀j(h:j<s.length),j<k->FK s[j] x.key=true:=fun j h hj=>pX j h (hk▸hj)
    have hr:∀j(h:j<s.length),k<=j->Op.bytesLess x.key.toList s[j].key.toList=true:=fun j hj hkj=>by
     have hlt:k<s.length:=by omega
     have h3:FK s[k] x.key=false:=by
      have:=xm (s:=s) (key:=x.key) (by omega);simpa only [hk]using this
     have h4:(s[k].key.toList==x.key.toList)=false:=by
      have h5:gQ s x.key=_:=(jF hlt h3 hl).2;rw [<-h5];exact hi0
     have h5:Op.bytesLess x.key.toList s[k].key.toList=true:=(VI _ _ h3).resolve_right (by rw [beq_eq_false_iff_ne]at h4;exact h4);by_cases e:j=k
     ·subst e;exact h5
     ·exact LG _ _ _ h5 (h.lt hlt hj (by omega))
    rw [hk]at hle⊢;refine List.pairwise_append.2 ⟨List.Pairwise.sublist (List.take_sublist _ _) h,List.pairwise_cons.2 ⟨fun b hb=> ?_,List.Pairwise.sublist (List.drop_sublist _ _) h⟩,fun a ha b hb=> ?_⟩
    ·obtain⟨j,hj,rfl⟩:=CG hb;simp only [AO]at hj;rw [VY];exact hr _ (by omega) (by omega)
    ·obtain⟨i,hi,rfl⟩:=CG ha;simp only [Ed]at hi;rw [List.getElem_take];rcases D9.1 hb with rfl| hb
     ·exact hl i (by omega) (by omega)
     ·obtain⟨j,hj,rfl⟩:=CG hb;simp only [AO]at hj;rw [VY];exact h.lt (by omega) (by omega) (by omega)
theorem Abb(s:List Wr)(x:Wr):(J8 s x).1.length<=max s.length 16:=by
 unfold J8;split
 ·simp;omega
 ·split
  ·simp;omega
  ·split
   ·simp;omega
   ·have:=XX s x.key;simp only [AQ,Ed,BJ,AO];omega
theorem pY{s:List Wr}(h:∀y∈s,Dk y=true)(x:Wr):∀y∈(J8 s x).1,Dk y=true:=by
 unfold J8;split
 ·exact h
 ·rename_i h0;have hx:Dk x=true:=by simpa using h0
  split
  ·intro y hy;rcases List.mem_or_eq_of_mem_set hy with h1| h1
   ·exact h y h1
   ·rw [h1];exact hx
  ·split
   ·exact h
   ·intro y hy;rcases AL.1 hy with h1| h1
    ·exact h y (List.mem_of_mem_take h1)
    ·rcases D9.1 h1 with h1| h1
     ·rw [h1];exact hx
     ·exact h y (List.mem_of_mem_drop h1)
def ZY(r:Rc):Value:= .agg #[.int .u64 (r.stamp.toNat:Int),.int .u64 (r.next.toNat:Int),.bool r.gone,.string r.text]
theorem XY(s:ByteArray):(s.toList==[])=decide (s.size=0):=by
 rw [ByteArray.toList_eq];have h:s.size=s.data.toList.length:=rfl;cases hh:s.data.toList with
 | nil=>rw [h,hh];rfl
 | cons a l=>rw [h,hh];rfl
theorem Abc(r:Rc)(w:World)(hs:r.text.size<=4294967296):Calls Tryz.prog 176 #[ZY r] w fun e w'=>e= .returned (.bool (DU r))/\Below w.heap.size w w':=by
 obtain⟨st,nx,g,tx⟩:=r;simp only [ZY];obtain⟨W,hW⟩:∃W,W=w.alloc (.cells #[.int .u64 (st.toNat:Int),.int .u64 (nx.toNat:Int),.bool g,.string tx] 89):=⟨_,rfl⟩;have B:BI W w.heap.size 89 [.int .u64 (st.toNat:Int),.int .u64 (nx.toNat:Int),.bool g,.string tx]:=hW▸heap_alloc_new _ _;have hb:Below w.heap.size w W:=hW▸(Below.refl _ _).alloc (Ae _) _;obtain⟨y0,y1,y2,y3,_,_,_,_⟩:=Ce B;have HB:=Aa hb;rw [hW]at y0 y1 y2 y3 HB;have e4:=XY tx;have E4:=Aa e4;clear B hb hW e4;by_cases h1:st.toNat=0
 ·have t1:((st.toNat:Int)==0)=true:=by rw [h1];rfl
  have HV:Hid (DU ⟨st,nx,g,tx⟩=false):=Aa (by simp [DU,h1]);clear h1;go_enter Tryz.func176,Tryz.ntmps176
  go_wp2_with fail
  go_ret;exact⟨by rw [HV.out];rfl,HB.out⟩
 ·have t1:((st.toNat:Int)==0)=false:=by rw [beq_eq_false_iff_ne];omega
  have u1:(st.toNat==0)=false:=by rw [beq_eq_false_iff_ne];exact h1
  by_cases h2:40<tx.size
  ·have t2:decide ((40:Int)<(tx.size:Int))=true:=decide_eq_true (by omega);have HV:Hid (DU ⟨st,nx,g,tx⟩=false):=Aa (by simp [DU,u1];omega);clear h1 u1;go_enter Tryz.func176,Tryz.ntmps176
   go_wp2_with fail
   go_ret;exact⟨by rw [HV.out];rfl,HB.out⟩
  ·have t2:decide ((40:Int)<(tx.size:Int))=false:=decide_eq_false (by omega);cases g with
   | false=>
     have HV:Hid (DU ⟨st,nx,false,tx⟩=true):=Aa (by simp [DU,u1];omega);clear h1 u1;go_enter Tryz.func176,Tryz.ntmps176
     go_wp2_with fail
     go_ret;exact⟨by rw [HV.out];rfl,HB.out⟩
   | true=>
     have HV:Hid (DU ⟨st,nx,true,tx⟩=(tx.toList==[])):=Aa (by rw [E4.out];simp [DU,u1];omega);clear h1 u1;go_enter Tryz.func176,Tryz.ntmps176;cases t4:(tx.toList==[])
     all_goals(go_wp2_with fail)
     all_goals(go_ret)
     all_goals(exact⟨by rw [HV.out,t4];rfl,HB.out⟩)
theorem Aef:∀n:Fin 41,bits BinOp.or .u64 3 ((n.val:Int)*65536)=((Hy n.val false:Nat):Int):=by decide+kernel
theorem Abd:bits BinOp.or .u64 (bits BinOp.or .u64 3 (((0:Nat):Int)*65536)) 256=((Hy 0 true:Nat):Int):=by decide+kernel
theorem Aeg(o b j:Nat)(ho:o<256^j)(hb:b<256)(hj:j<8):bits .or .u64 (o:Int) (IntKind.u64.wrap (IntKind.u64.wrap (b:Int)*2^(j*8)))=((o+b*256^j:Nat):Int):=by
 have h:=tJ o b j hb hj;have e:(o:Int)%256^j=(o:Int):=by
  have e1:(o:Int)%256^j=((o%256^j:Nat):Int):=by rw [Int.natCast_emod,Int.natCast_pow];rfl
  rw [e1,FM ho]
 rw [e,FM ho,Nat.mul_comm 8 j]at h;exact h
def MB(r:Rc)(k:Nat):List Value:=([AA (Hy r.text.size r.gone),r.stamp,r.next]++textW (r.text.data.toList.take k)).map wv
theorem qc(r:Rc)(k:Nat)(hk:k<r.text.size)(v:Nat)(hv:v=(KE (r.text.data.toList.take k) (k/8)).toNat+r.text[k].toNat*256^(k%8)):(MB r k).set (3+k/8) (.int .u64 (v:Int))=MB r (k+1):=by
 have hl:k<r.text.data.toList.length:=hk;have h1:=Xj r.text.data.toList k hl;have e:r.text.data.toList[k]=r.text[k]:=rfl;rw [e,<-hv]at h1;unfold MB;rw [<-nT r.text.data.toList k hl (KE (r.text.data.toList.take (k+1)) (k/8)) (by rw [e,<-hv];exact h1),<-h1];rw [show Aw IntKind.u64 ((KE (r.text.data.toList.take (k+1)) (k/8)).toNat:Int)=wv (KE (r.text.data.toList.take (k+1)) (k/8))from rfl,<-List.map_set,List.set_append_right _ _ (by simp)];congr 3;simp
def qf(r:Rc)(w:World)(e:Ending)(w':World):Prop:=
 Below w.heap.size w w'/\if DU r=true then∃g,e= .returned (.tuple #[.slice (some ⟨g,0,none⟩) 8 8,.bool true])/\w'.ownsRow w.heap.size 23 1 (.slice (some ⟨g,0,none⟩) 8 8) 8 ((CJ r).map wv)
  else e= .returned (.tuple #[.slice none 0 0,.bool false])
theorem UO(r:Rc)(w:World)(hs:r.text.size<=4294967296):Calls Tryz.prog 137 #[ZY r] w (qf r w):=by
 obtain⟨W,hW⟩:∃W,W=w.alloc (.cells #[.int .u64 (r.stamp.toNat:Int),.int .u64 (r.next.toNat:Int),.bool r.gone,.string r.text] 89):=⟨_,rfl⟩;have B:BI W w.heap.size 89 [.int .u64 (r.stamp.toNat:Int),.int .u64 (r.next.toNat:Int),.bool r.gone,.string r.text]:=hW▸heap_alloc_new _ _;have hb:Below w.heap.size w W:=hW▸(Below.refl _ _).alloc (Ae _) _;obtain⟨y0,y1,y2,y3,_,_,_,_⟩:=Ce B;have HB:=Aa hb;have HK:=Aa B;have HR:=Aa (Abc r W hs);unfold ZY at HR⊢;have HW:=Aa hW;rw [hW]at y0 y1 y2 y3;clear B hb hW;have hmk:∀W:World,(Instr.makeSlice 129 (.int .i64 8) (.int .i64 8)).run Tryz.prog W= .ok (.slice (some ⟨W.heap.size,0,none⟩) 8 8) (W.alloc (.cells (madeCells (Aw .u64 0).cells (8*1)) 23)):=fun W=>by
  obtain⟨i0,hi,hz0,hz1,hz2⟩:=info_parts Tryz.iJ;have:=run_make (P:=Tryz.prog) (w:=W) 129 23 i0 (.int .u64 0) Tryz.underlying129 hi hz0 .i64 .i64 8 8 (by omega) (by omega) (by rw [hz2];omega) (by omega);rw [hz1]at this;simpa using this
 have hzc:(madeCells (Aw .u64 0).cells (8*1)).toList=(List.replicate 8 (0:UInt64)).map wv:=KH 8;obtain⟨zc,hz⟩:∃zc,madeCells (Aw .u64 0).cells (8*1)=zc:=⟨_,rfl⟩;rw [hz]at hmk hzc;have HZ:=Aa hzc;clear hz hzc;cases hR:DU r with
 | false=>
   have HV:=Aa hR;rw [hR]at HR;clear hR;go_enter Tryz.func137,Tryz.ntmps137
   go_wp2_with fail
   rw [<-HW.out];refine HR.out.mono ?_;rintro e w1⟨rfl,hb1⟩;have HB1:=Aa (HB.out.trans (hb1.mono HB.out.size));clear HR hb1
   go_wp2_with fail
   go_ret2;refine⟨HB1.out,?_⟩;rw [if_neg (by rw [HV.out];exact Bool.false_ne_true)];rfl
 | true=>
   have HV:=Aa hR;rw [hR]at HR;have h40:=((JC r).1 hR).2.1;clear hR;go_enter Tryz.func137,Tryz.ntmps137
   go_wp2_with fail
   rw [<-HW.out];refine HR.out.mono ?_;rintro e w1⟨rfl,hb1⟩;have HB1:=Aa (HB.out.trans (hb1.mono HB.out.size));have B1:=HK.out.below hb1 HK.out.lt;obtain⟨z0,z1,z2,z3,_,_,_,_⟩:=Ce B1;have zq:=Aa B1;clear HR hb1 B1 y0 y1 y2 y3;obtain⟨W2,hW2⟩:∃W2,W2=w1.alloc (.cells zc 23):=⟨_,rfl⟩;have hm1:=hmk w1;rw [<-hW2]at hm1;obtain⟨g,hg⟩:∃g,g=w1.heap.size:=⟨_,rfl⟩;have hlt:=zq.out.lt;have hne:w.heap.size≠g:=by omega
   have B2:BI W2 g 23 [.int .u64 0,.int .u64 0,.int .u64 0,.int .u64 0,.int .u64 0,.int .u64 0,.int .u64 0,.int .u64 0]:=by
    have e:[Aw .u64 0,.int .u64 0,.int .u64 0,.int .u64 0,.int .u64 0,.int .u64 0,.int .u64 0,.int .u64 0]=zc.toList:=by rw [HZ.out];rfl
    rw [e];unfold BI;rw [hW2,hg,Array.toArray_toList];exact heap_alloc_new _ _
   have K2:BI W2 w.heap.size 89 _:=(hW2▸heap_alloc_old _ _ zq.out.lt:W2.heap[w.heap.size]? =w1.heap[w.heap.size]?).trans zq.out;have hb2:Below g w1 W2:=by rw [hW2,hg];exact(Below.refl _ _).alloc (Ae _) _
   have HG:=Aa hg;rw [<-hg]at hm1;have HX0:Hid ((W2.heap.size:Nat)=W2.heap.size):=Aa rfl;clear hW2 hg hmk;have facts:∀(W:World)(xs:List Value),BI W g 23 xs->∀k,k<xs.length->(∃v,W.cell? ⟨g,k,none⟩=some v)/\W.frozen? ⟨g,k,none⟩=false:=fun W xs h k hk=>⟨⟨_,h.has hk⟩,h.frozen k⟩
   have HF:=Aa facts;clear facts;obtain⟨X,hX⟩:∃X,X=Aw .u64 (bits BinOp.or .u64 3 ((r.text.size:Int)*65536)):=⟨_,rfl⟩;cases hgn:r.gone with
   | false=>
     have mV:=Aa hgn;have B3:=B2.AU 0 X;have K3:=K2.far hne 0 X;have B4:=B3.AU 1 (.int .u64 (r.stamp.toNat:Int));have K4:=K3.far hne 1 (.int .u64 (r.stamp.toNat:Int));have B5:=B4.AU 2 (.int .u64 (r.next.toNat:Int));have K5:=K4.far hne 2 (.int .u64 (r.next.toNat:Int));have Ou:=Aa B5;have zB:=Aa K5;obtain⟨⟨v2,c2⟩,f2⟩:=HF.out _ _ B2 0 (by simp);obtain⟨⟨v3,c3⟩,f3⟩:=HF.out _ _ B3 1 (by simp);obtain⟨⟨v4,c4⟩,f4⟩:=HF.out _ _ B4 2 (by simp);have a23:=K2.cell 3;have a32:=K3.cell 2;have a30:=K3.cell 0;have a41:=K4.cell 1;have a53:=K5.cell 3;simp only [Ad,Af,hgn]at a23 a32 a30 a41 a53;rw [hX]at a32 a30 a41 a53 c3 f3 c4 f4;clear B2 K2 B3 K3 B4 K4 B5 K5 hgn;have HR0:Hid (BI ((((W2.setCell ⟨g,0,none⟩ (Aw .u64 (bits BinOp.or .u64 3 ((r.text.size:Int)*65536)))).setCell ⟨g,1,none⟩ (.int .u64 (r.stamp.toNat:Int))).setCell ⟨g,2,none⟩ (.int .u64 (r.next.toNat:Int)))) g 23 (MB r 0)):=Aa (by
      have h:=Ou.out;rw [hX]at h;unfold MB;rw [mV.out,aY,Xk];have e:bits BinOp.or .u64 3 ((r.text.size:Int)*65536)=((Hy r.text.size false:Nat):Int):=Aef ⟨r.text.size,by omega⟩;have e2:=Pm h40 false;simp only [Am,Aq,e]at h;simp only [Ci,Et,Cf,FY,wv,e,e2,show(((0:UInt64).toNat:Nat):Int)=0 from rfl];exact h)
     have HB0:Hid (Below g w1 ((((W2.setCell ⟨g,0,none⟩ (Aw .u64 (bits BinOp.or .u64 3 ((r.text.size:Int)*65536)))).setCell ⟨g,1,none⟩ (.int .u64 (r.stamp.toNat:Int))).setCell ⟨g,2,none⟩ (.int .u64 (r.next.toNat:Int))))):=Aa (((hb2.setCell (p:=⟨g,0,none⟩) (Ae _) _).setCell (p:=⟨g,1,none⟩) (Ae _) _).setCell (p:=⟨g,2,none⟩) (Ae _) _);clear hX Ou zB HF HX0 HZ hb2
     go_wp2_with fail
     clear a23 a32 a30 a41 a53 c2 f2 c3 f3 c4 f4;generalize((((W2.setCell ⟨g,0,none⟩ (Aw .u64 (bits BinOp.or .u64 3 ((r.text.size:Int)*65536)))).setCell ⟨g,1,none⟩ (.int .u64 (r.stamp.toNat:Int))).setCell ⟨g,2,none⟩ (.int .u64 (r.next.toNat:Int))))=W5 at*;generalize bits BinOp.or .u64 3 ((r.text.size:Int)*65536)=hd0 at*
     go_loopw [36](fun i wr=>∃k:Nat,k<=r.text.size/\i= .int .i64 (k:Nat)/\BI wr g 23 (MB r k)/\Below g w1 wr)(fun i _=>r.text.size- (intOf i).toNat)
     case atStart=>exact⟨0,Nat.zero_le _,rfl,HR0.out,HB0.out⟩
     case round=>
      obtain⟨k,hk,rfl,hrow,hbr⟩:=hrel;have jB:=Aa hrow;have Me:=Aa hbr;clear hrow hbr;by_cases hlt2:k<r.text.size
      ·have hcell:=jB.out.cell (3+k/8);have hfz:=jB.out.frozen (3+k/8);have hget:(MB r k)[3+k/8]? =some (.int .u64 ((KE (r.text.data.toList.take k) (k/8)).toNat:Int)):=by
        unfold MB;rw [BO,List.getElem?_append_right (by simp),show 3+k/8- [AA (Hy r.text.size r.gone),r.stamp,r.next].length=k/8 by simp,textW,BO,List.getElem?_range (by omega)];rfl
       rw [hget]at hcell;have hx3:wr.cell? ⟨w.heap.size,3,none⟩=some (.string r.text):=by
        have:=(zq.out.below Me.out (by have:=HG.out;omega:w.heap.size<g)).cell 3;simpa using this
       have hkk:k/8<=4:=by omega
       obtain⟨o,ho⟩:∃o,KE (r.text.data.toList.take k) (k/8)=o:=⟨_,rfl⟩;have HO:=Aa ho;rw [ho]at hcell;have Aeh:=Aa (Aeg o.toNat r.text[k].toNat (k%8) (by rw [<-ho];exact nS _ _) (r.text[k]).toNat_lt (by omega));have Aei:Hid (BI ((wr.setCell ⟨g,3+k/8,none⟩ (.int .u64 ((o.toNat+r.text[k].toNat*256^(k%8):Nat):Int))).drew) g 23 (MB r (k+1))):=Aa (by
        have h:=(jB.out.AU (3+k/8) (.int .u64 ((o.toNat+r.text[k].toNat*256^(k%8):Nat):Int))).drew;rw [qc r k hlt2 _ (by rw [ho])]at h;exact h)
       have HNb:Hid (Below g w1 ((wr.setCell ⟨g,3+k/8,none⟩ (.int .u64 ((o.toNat+r.text[k].toNat*256^(k%8):Nat):Int))).drew)):=Aa ((Me.out.setCell (p:=⟨g,3+k/8,none⟩) (Ae _) _).drew);clear hget ho
       go_wp2_with fail
       go_region;rw [Aeh.out]
       go_wp2_with fail
       go_roundw
       case rel=>exact⟨k+1,by omega,by go_num,Aei.out,HNb.out⟩
       case measure=>simp [intOf];omega
      ·have hkn:k=r.text.size:=by omega
       subst hkn;have HE:Hid (MB r r.text.size=(CJ r).map wv):=Aa (by
        unfold MB CJ;rw [EW (show r.text.data.toList.length<=r.text.size from Ae _)])
       go_wp2_with fail
       go_ret2;refine⟨HB1.out.trans (Me.out.mono (by have:=HG.out;have:=HB1.out.size;omega)),?_⟩;rw [if_pos HV.out];have hO:=jB.out.own (B:=w.heap.size) (by have:=HG.out;have:=HB1.out.size;omega) (by rw [HE.out,CZ,Hz];decide);rw [HE.out,CZ,Hz]at hO;exact⟨g,rfl,hO⟩
   | true=>
     have mV:=Aa hgn;have hz0:r.text.size=0:=((JC r).1 HV.out).2.2 hgn;have HZ0:=Aa hz0;clear hz0;obtain⟨Y,hY⟩:∃Y,Y=Aw .u64 (bits BinOp.or .u64 (bits BinOp.or .u64 3 ((r.text.size:Int)*65536)) 256):=⟨_,rfl⟩;have B3:=B2.AU 0 X;have K3:=K2.far hne 0 X;have B4:=B3.AU 0 Y;have K4:=K3.far hne 0 Y;have B5:=B4.AU 1 (.int .u64 (r.stamp.toNat:Int));have K5:=K4.far hne 1 (.int .u64 (r.stamp.toNat:Int));have B6:=B5.AU 2 (.int .u64 (r.next.toNat:Int));have K6:=K5.far hne 2 (.int .u64 (r.next.toNat:Int));have NH:=Aa B6;have HK6:=Aa K6;obtain⟨⟨v2,c2⟩,f2⟩:=HF.out _ _ B2 0 (by simp);have c3:=B3.cell 0;have f3:=B3.frozen 0;obtain⟨⟨v4,c4⟩,f4⟩:=HF.out _ _ B4 1 (by simp);obtain⟨⟨v5,c5⟩,f5⟩:=HF.out _ _ B5 2 (by simp);have a23:=K2.cell 3;have a32:=K3.cell 2;have a40:=K4.cell 0;have a51:=K5.cell 1;have a63:=K6.cell 3;simp only [Ad,Af,Am,hgn]at a23 a32 a40 a51 a63 c3;rw [hX]at a32 c3 f3 a40 c4 f4 a51 c5 f5 a63;rw [hY]at a40 c4 f4 a51 c5 f5 a63;clear B2 K2 B3 K3 B4 K4 B5 K5 B6 K6 hgn;have HR0:Hid (BI (((((W2.setCell ⟨g,0,none⟩ (Aw .u64 (bits BinOp.or .u64 3 ((r.text.size:Int)*65536)))).setCell ⟨g,0,none⟩ (Aw .u64 (bits BinOp.or .u64 (bits BinOp.or .u64 3 ((r.text.size:Int)*65536)) 256))).setCell ⟨g,1,none⟩ (.int .u64 (r.stamp.toNat:Int))).setCell ⟨g,2,none⟩ (.int .u64 (r.next.toNat:Int)))) g 23 (MB r 0)):=Aa (by
      have h:=NH.out;rw [hX,hY]at h;unfold MB;rw [mV.out,aY,Xk];have e:bits BinOp.or .u64 (bits BinOp.or .u64 3 ((r.text.size:Int)*65536)) 256=((Hy r.text.size true:Nat):Int):=by rw [HZ0.out];exact Abd
      have e2:=Pm h40 true;simp only [Am,Aq,e]at h;simp only [Ci,Et,Cf,FY,wv,e,e2,show(((0:UInt64).toNat:Nat):Int)=0 from rfl];exact h)
     have HB0:Hid (Below g w1 (((((W2.setCell ⟨g,0,none⟩ (Aw .u64 (bits BinOp.or .u64 3 ((r.text.size:Int)*65536)))).setCell ⟨g,0,none⟩ (Aw .u64 (bits BinOp.or .u64 (bits BinOp.or .u64 3 ((r.text.size:Int)*65536)) 256))).setCell ⟨g,1,none⟩ (.int .u64 (r.stamp.toNat:Int))).setCell ⟨g,2,none⟩ (.int .u64 (r.next.toNat:Int))))):=Aa ((((hb2.setCell (p:=⟨g,0,none⟩) (Ae _) _).setCell (p:=⟨g,0,none⟩) (Ae _) _).setCell (p:=⟨g,1,none⟩) (Ae _) _).setCell (p:=⟨g,2,none⟩) (Ae _) _);clear hX hY NH HK6 HF HX0 HZ hb2
     go_wp2_with fail
     clear a23 a32 a40 a51 a63 c2 f2 c3 f3 c4 f4 c5 f5;generalize(((((W2.setCell ⟨g,0,none⟩ (Aw .u64 (bits BinOp.or .u64 3 ((r.text.size:Int)*65536)))).setCell ⟨g,0,none⟩ (Aw .u64 (bits BinOp.or .u64 (bits BinOp.or .u64 3 ((r.text.size:Int)*65536)) 256))).setCell ⟨g,1,none⟩ (.int .u64 (r.stamp.toNat:Int))).setCell ⟨g,2,none⟩ (.int .u64 (r.next.toNat:Int))))=W5 at*;generalize bits BinOp.or .u64 (bits BinOp.or .u64 3 ((r.text.size:Int)*65536)) 256=hd1 at*;generalize bits BinOp.or .u64 3 ((r.text.size:Int)*65536)=hd0 at*
     go_loopw [36](fun i wr=>∃k:Nat,k<=r.text.size/\i= .int .i64 (k:Nat)/\BI wr g 23 (MB r k)/\Below g w1 wr)(fun i _=>r.text.size- (intOf i).toNat)
     case atStart=>exact⟨0,Nat.zero_le _,rfl,HR0.out,HB0.out⟩
     case round=>
      obtain⟨k,hk,rfl,hrow,hbr⟩:=hrel;have jB:=Aa hrow;have Me:=Aa hbr;clear hrow hbr;have hkn:k=r.text.size:=by have:=HZ0.out;omega
      subst hkn;have HE:Hid (MB r r.text.size=(CJ r).map wv):=Aa (by
       unfold MB CJ;rw [EW (show r.text.data.toList.length<=r.text.size from Ae _)])
      go_wp2_with fail
      go_ret2;refine⟨HB1.out.trans (Me.out.mono (by have:=HG.out;have:=HB1.out.size;omega)),?_⟩;rw [if_pos HV.out];have hO:=jB.out.own (B:=w.heap.size) (by have:=HG.out;have:=HB1.out.size;omega) (by rw [HE.out,CZ,Hz];decide);rw [HE.out,CZ,Hz]at hO;exact⟨g,rfl,hO⟩
section
variable{P:Program}{t kt et:TypeId}
end
section
variable{P:Program}{t kt et:TypeId}
end
end Go.Proofs.YtjcppneoncpdbaaGreatDoor
