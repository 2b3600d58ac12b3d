import Derived.Test.YtkimaejoeapmnaaGreatDoorG13
set_option maxHeartbeats 32000000
set_option maxRecDepth 100000
open Nat renaming le_trans->Bg,lt_of_lt_of_le->Cf,le_refl->Ad,mod_eq_of_lt->FZ
open Go.World renaming setCell->D6
open Array renaming size_modify->OB,getElem?_modify->QJ,getElem?_eq_some_iff->AB
open Go.Value renaming ownBlock->Ba,int->Au,slice->Ac
open List renaming length_drop->AV,findIdx?_eq_some_iff_getElem->KD,getElem?_cons_succ->Az,getElem?_cons_zero->Aj,getElem?_map->BZ,getElem?_eq_getElem->Af,length_append->AQ,mem_append->AL,mem_singleton->BC,take_zero->Ahv,set_cons_zero->Am,set_cons_succ->Aq,cons_append->CJ,nil_append->Fz,map_cons->BU,map_nil->Gq,take_of_length_le->FK,length_map->BH
open Go.Lib renaming hid->Aa
open UInt64 renaming ofNat->AA
namespace Go.Proofs.YtkimaejoeapmnaaGreatDoor
open Go.RowKit
theorem Tryz.Afd:Jt Tryz.prog 208 214 (.agg #[.slice none 0 0,.int .u64 0,.slice none 0 0,.slice none 0 0,.int .i64 0,.int .u8 0,.int .i64 0]) 7 104:=⟨Tryz.underlying208,by kernel_rfl,rfl⟩
def CV(e:TypeId)(w w':World):Prop:=w.heap.size<=w'.heap.size/\∀j,j<w.heap.size->(∃cs fz,w.heap[j]? =some (.cells cs e fz))\/w'.heap[j]? =w.heap[j]?
theorem CV.of_below{e:TypeId}{w w':World}(h:Below w.heap.size w w'):CV e w w':=⟨h.size,fun j hj=> .inr (h.block j hj)⟩
theorem CV.trans{e:TypeId}{a b c:World}(h:CV e a b)(k:CV e b c):CV e a c:=by
 refine⟨Bg h.1 k.1,fun j hj=> ?_⟩;rcases h.2 j hj with h'| h'
 ·exact .inl h'
 ·rcases k.2 j (Cf hj h.1)with⟨cs,fz,k'⟩| k'
  ·exact .inl ⟨cs,fz,h'▸k'⟩
  ·exact .inr (k'.trans h')
theorem CV.AZ{e:TypeId}{w:World}{g:Nat}{xs:List Value}(h:CG w g e xs)(i:Nat)(u:Value):CV e w (w.setCell ⟨g,i,none⟩ u):=by
 refine⟨by simp [D6,OB],fun j hj=> ?_⟩;by_cases hjg:j=g
 ·exact .inl ⟨_,_,hjg▸h⟩
 ·exact .inr (by simp only [D6,QJ];rw [if_neg (fun e=>hjg e.symm)])
theorem CV.kept{e:TypeId}{w w':World}{base k n:Nat}{v:Value}{xs:List Value}(h:w.ownsRow base e k v n xs)(hk:Kept w w' v.ownBlock):CV e w w':=by
 refine⟨hk.1,fun j hj=> ?_⟩;by_cases hjv:some j=v.ownBlock
 ·rcases h.2 with⟨h1,_⟩| ⟨g,cap,cur,h1,_,h3,_⟩
  ·subst h1;simp [Ba]at hjv
  ·subst h1;simp [Ba]at hjv;subst hjv;exact .inl ⟨_,_,h3⟩
 ·exact .inr (hk.2 j hj hjv)
theorem CV.own{e f:TypeId}(hef:f≠e){w w':World}{base k n:Nat}{v:Value}{xs:List Value}(s:CV e w w')(h:w.ownsRow base f k v n xs):w'.ownsRow base f k v n xs:=by
 refine⟨h.1,?_⟩;rcases h.2 with h1| ⟨g,cap,cur,h1,h2,h3,h4⟩
 ·exact .inl h1
 ·refine .inr ⟨g,cap,cur,h1,h2,?_,h4⟩;rcases s.2 g (AB.1 h3).1 with⟨cs,fz,h'⟩| h'
  ·rw [h3]at h';injection h' with h';injection h' with _ h'';exact absurd h'' hef
  ·rw [h',h3]
theorem CV.nd{w w':World}{base:Nat}{v:Value}{x:Nd}(s:CV 214 w w')(h:Xc w base v x):Xc w' base v x:=by
 obtain⟨A1,c1,A2,c2,A3,c3,e,h1,h2,h3⟩:=h;exact⟨A1,c1,A2,c2,A3,c3,e,s.own (by decide) h1,s.own (by decide) h2,s.own (by decide) h3⟩
theorem Xc.mono{w:World}{base base':Nat}{v:Value}{x:Nd}(h:Xc w base v x)(hb:base'<=base):Xc w base' v x:=by
 obtain⟨A1,c1,A2,c2,A3,c3,e,h1,h2,h3⟩:=h;exact⟨A1,c1,A2,c2,A3,c3,e,EM h1 hb,EM h2 hb,EM h3 hb⟩
def PlV(w:World)(base:Nat)(cs:List Value)(pl:Pl):Prop:=
 ∃a b c d,cs=[a,b,c,d,.int .i64 pl.off,.int .u8 (pl.label.toNat:Int),.int .i64 pl.word]/\Xc w base (.agg #[a,b,c,d]) pl.nd
def VI(w:World)(base:Nat):List (List Value)->List Pl->Prop
 | [],[]=>True
 | c::cs,p::ps=>PlV w base c p/\VI w base cs ps
 | _,_=>False
theorem CV.pl{w w':World}{base:Nat}{cs:List Value}{p:Pl}(s:CV 214 w w')(h:PlV w base cs p):PlV w' base cs p:=by
 obtain⟨a,b,c,d,e,h⟩:=h;exact⟨a,b,c,d,e,s.nd h⟩
theorem CV.pls{w w':World}{base:Nat}(s:CV 214 w w'):∀(vs:List (List Value))(ps:List Pl),VI w base vs ps->VI w' base vs ps
 | [],[],_=>trivial
 | _::vs,_::ps,h=>⟨s.pl h.1,s.pls vs ps h.2⟩
 | [],_::_,h=>h.elim
 | _::_,[],h=>h.elim
theorem VI.app{w:World}{base:Nat}{c:List Value}{p:Pl}(hp:PlV w base c p):∀(vs:List (List Value))(ps:List Pl),VI w base vs ps->VI w base (vs++[c]) (ps++[p])
 | [],[],_=>⟨hp,trivial⟩
 | _::vs,_::ps,h=>⟨h.1,VI.app hp vs ps h.2⟩
 | [],_::_,h=>h.elim
 | _::_,[],h=>h.elim
def NH(w:World)(base:Nat)(v:Value)(way:List Pl):Prop:=
 ∃vs,w.ownsRow base 214 7 v way.length (vs.flatten)/\VI w base vs way
theorem NH.nil(w:World)(base:Nat):NH w base (.slice none 0 0) []:=⟨[],World.ownsRow_nil _ _ _ _,trivial⟩
theorem NH.app{w w':World}{base:Nat}{v':Value}{way:List Pl}{vs:List (List Value)}{c:List Value}{p:Pl}(h:VI w base vs way)(hp:PlV w base c p)(s:CV 214 w w')
 (ho:w'.ownsRow base 214 7 v' (way.length+1) (vs.flatten++c)):NH w' base v' (way++[p]):=
 ⟨vs++[c],by simpa using ho,(s.pls vs way h).app (s.pl hp)⟩
def Qb(w:World)(base:Nat)(A:Option Addr)(l:List UInt8):Prop:=
 Bs w A l.length l/\∀g off,A=some ⟨g,off,none⟩->base<=g/\∃cs fz,w.heap[g]? =some (.cells cs 5 fz)
theorem CV.rs{w w':World}{base:Nat}{A:Option Addr}{l:List UInt8}(s:CV 214 w w')(h:Qb w base A l):Qb w' base A l:=by
 have key:∀g off,A=some ⟨g,off,none⟩->w'.heap[g]? =w.heap[g]? :=fun g off e=>by
  obtain⟨_,cs,fz,hg⟩:=h.2 g off e;rcases s.2 g (AB.1 hg).1 with⟨cs',fz',h'⟩| h'
  ·rw [hg]at h';injection h' with h';injection h' with _ h'';exact absurd h'' (by decide)
  ·exact h'
 refine⟨⟨h.1.1,fun hn=> ?_⟩,fun g off e=> ?_⟩
 ·obtain⟨b,off,e,hb,hc⟩:=h.1.2 hn;exact⟨b,off,e,Cf hb s.1,fun j hj=>(World.cell?_of_block (w:=w) (key b off e)).trans (hc j hj)⟩
 ·obtain⟨h1,cs,fz,hg⟩:=h.2 g off e;exact⟨h1,cs,fz,(key g off e).trans hg⟩
theorem Qb.JI{w:World}{base n c:Nat}{A:Option Addr}{l:List UInt8}(h:w.ownsRow base 5 1 (.slice A n c) n (l.map bv))(hn:n=l.length):Qb w base A l:=by
 subst hn;refine⟨(CB h).2,fun g off e=> ?_⟩;rcases h.2 with⟨h1,_⟩| ⟨g',cap,cur,h1,h2,h3,_⟩
 ·simp only [Value.slice.injEq]at h1;rw [h1.1]at e;cases e
 ·simp only [Value.slice.injEq]at h1;rw [h1.1]at e;injection e with e;injection e with e1 e2;subst e1;exact⟨h2,_,_,h3⟩
theorem Qb.drop{w:World}{base g off:Nat}{l:List UInt8}(h:Qb w base (some ⟨g,off,none⟩) l)(k:Nat)(hk:k<=l.length):Qb w base (some ⟨g,off+k,none⟩) (l.drop k):=by
 refine⟨⟨by simp,fun hn=> ?_⟩,fun g' off' e=> ?_⟩
 ·simp only [AV]at hn;obtain⟨b,off',e,hb,hc⟩:=h.1.2 (by omega);injection e with e;injection e with e1 e2;subst e1 e2
  refine⟨_,_,rfl,hb,fun j hj=> ?_⟩;simp only [AV]at hj;rw [Nat.add_assoc,hc (k+j) (by omega),List.map_drop,List.getElem?_drop]
 ·injection e with e;injection e with e1 e2;subst e1
  exact h.2 _ _ rfl
theorem Qb.cut{w:World}{base b off c:Nat}{l:List UInt8}(h:Qb w base (some ⟨b,off,none⟩) l)(k:Nat)(hk:k<=l.length)(hc:l.length<=c):Qb w base (if c=k then some ⟨b,off,none⟩else some ⟨b,off+k,none⟩) (l.drop k):=by
 split
 ·refine⟨⟨by simp,fun hn=> ?_⟩,h.2⟩;simp only [AV]at hn;omega
 ·exact h.drop k hk
theorem Kept.trans'{a b c:World}{r:Option Nat}(h:Kept a b r)(k:Kept b c r):Kept a c r:=
 ⟨Bg h.1 k.1,fun j hj hr=>(k.2 j (Cf hj h.1) hr).trans (h.2 j hj hr)⟩
theorem Kept.of_below{a b:World}{r:Option Nat}(h:Below a.heap.size a b):Kept a b r:=⟨h.size,fun j hj _=>h.block j hj⟩
theorem Kept.AZ(w:World)(g i:Nat)(u:Value):Kept w (w.setCell ⟨g,i,none⟩ u) (some g):=
 ⟨by simp [D6,OB],fun j _ hr=>by simp only [D6,QJ];rw [if_neg (fun e=>hr (by rw [e]))]⟩
theorem EO{w w':World}{base k n:Nat}{e:TypeId}{v:Value}{xs:List Value}{r:Option Nat}(h:w.ownsRow base e k v n xs)(hk:Kept w w' r)(hn:r≠v.ownBlock\/v.ownBlock=none):w'.ownsRow base e k v n xs:=by
 refine⟨h.1,?_⟩
 rcases h.2 with h1| ⟨g,cap,cur,h1,h2,h3,h4⟩
 ·exact .inl h1
 ·refine .inr ⟨g,cap,cur,h1,h2,?_,h4⟩
  subst h1
  rw [hk.2 g (AB.1 h3).1 (fun e=>by rcases hn with hn| hn
                                    ·exact hn (by rw [<-e];rfl)
                                    ·simp [Ba]at hn)]
  exact h3
def lenOf:Value->Nat
 | .slice _ n _=>n
 | _=>0
def nV(s:St)(key:List UInt8)(w:World)(e:Ending)(w':World):Prop:=
 Below w.heap.size w w'/\match FQ s key with
  | none=>e= .returned (.tuple #[.slice none 0 0,.slice none 0 0,.int .i64 5])
  | some (way,rest)=>∃vw A c,e= .returned (.tuple #[vw,.slice A rest.length c,.int .i64 0])/\NH w' w.heap.size vw way/\Qb w' w.heap.size A rest/\rest.length<=c
theorem Zr(l:List UInt8):(DR l).length=2*l.length:=by
 induction l with
 | nil=>rfl
 | cons a t ih=>simp [DR]at ih⊢;omega
def Afe(s:St)(_:Nat)(key:List UInt8)(w:World)(pb:Nat)(u7 u8 u10:Value)(wr:World):Prop:=
 ∃(f:Nat)(A:Option Addr)(c:Nat)(rest:List UInt8)(name:UInt64)(label:UInt8)(word:Int)(way:List Pl)(a0 a1 a2 a3 a4:Value),
  u7= .slice A rest.length c/\u8= .int .u64 (name.toNat:Int)/\Ep s f name rest label word way=FQ s key/\rest.length<f/\rest.length<=c/\way.length+rest.length<=2*key.length/\
  CG wr pb 214 [a0,a1,a2,a3,a4,.int .u8 (label.toNat:Int),.int .i64 word]/\NH wr w.heap.size u10 way/\(some pb≠u10.ownBlock)/\Qb wr w.heap.size A rest/\Below w.heap.size w wr
theorem dQ(l:List UInt64):(ET l).kids.length<=16/\(ET l).labels.length<=16:=by
 unfold ET;split
 ·unfold Ad6 IM
  dsimp only
  split<;>simp [digits_length]<;>omega
 ·unfold tC;have:=Y0 ((l.drop 4).take 16);simp at this;simp [NW];omega
theorem FM{s:St}{name:UInt64}{nd:Nd}(h:EZ s name=some nd):nd.pre.length<=15/\nd.kids.length<=16/\nd.labels.length<=16:=by
 unfold EZ at h;split at h
 ·cases h
 ·split at h
  ·rename_i hd;injection h with h
   subst h;refine⟨?_,(dQ _).1,(dQ _).2⟩;unfold IG at hd;simp only [Bool.and_eq_true]at hd;exact((Bo _).1 hd.2.1).1
  ·cases h
theorem ED{w:World}{g:Nat}{e:TypeId}{a b c d k l m:Value}(h:CG w g e [a,b,c,d,k,l,m]):w.cell? ⟨g,0,none⟩=some a/\w.cell? ⟨g,1,none⟩=some b/\w.cell? ⟨g,2,none⟩=some c/\w.cell? ⟨g,3,none⟩=some d/\w.cell? ⟨g,4,none⟩=some k/\w.cell? ⟨g,5,none⟩=some l/\w.cell? ⟨g,6,none⟩=some m:=
 ⟨h.cell 0,h.cell 1,h.cell 2,h.cell 3,h.cell 4,h.cell 5,h.cell 6⟩
theorem wrap64(a:Int)(h1: -9223372036854775808<=a)(h2:a<9223372036854775808):IntKind.i64.wrap a=a:=by
 simp only [IntKind.wrap,IntKind.bits,IntKind.signed,Bool.true_and,decide_eq_true_eq,show(2:Int)^(64-1)=9223372036854775808 from rfl,show(2:Int)^64=18446744073709551616 from rfl];split<;>omega
theorem Rj{len:Mode}{w:World}{x d p L:Nat}{s:St}{F:Nat->Prop}(h:IX len w x d p L s F){name:UInt64}{nd:Nd}(hr:EZ s name=some nd):0<=Bi name/\Bi name<=65536:=by
 obtain⟨l0,l1,ok,FT⟩:=h.L0;unfold EZ at hr;split at hr
 ·cases hr
 ·rename_i h0;obtain⟨i,a,hi,ho,hk,hf⟩:=UT h0;rw [ho];have:=ok.fits;rw [FT]at hi;rcases hk with k| k<;>rw [k]at hf⊢<;>omega
theorem Abj{nd:Nd}{lab:UInt8}{kid:UInt64}{number:Nat}(h:Ov nd lab=some (kid,number)):X7 nd lab= .tuple #[.int .u64 (kid.toNat:Int),.int .i64 (number:Int),.bool true]:=by
 unfold Ov Jr at h;unfold X7;split at h
 ·rename_i i hi;rw [hi];split at h
  ·rename_i hr;injection h with h
   injection h with h1 h2
   subst h1 h2;simp only [hr,if_true];split<;>rfl
  ·cases h
 ·cases h
theorem Abk{nd:Nd}{lab:UInt8}(h:Ov nd lab=none):X7 nd lab= .tuple #[.int .u64 0,.int .i64 0,.bool false]:=by
 unfold Ov Jr at h;unfold X7;split at h
 ·rename_i i hi;rw [hi];split at h
  ·cases h
  ·rename_i hr;simp only [hr];rfl
 ·rename_i hi;rw [hi]
theorem vK{nd:Nd}{lab:UInt8}{kid:UInt64}{number:Nat}(h:Ov nd lab=some (kid,number))(hk:nd.labels.length<=16):number<=300:=by
 unfold Ov Jr at h;have:=lab.toNat_lt;split at h
 ·rename_i i hi;have hil:=(KD.1 hi).1;split at h
  ·injection h with h
   injection h with h1 h2
   subst h2;split<;>omega
  ·cases h
 ·cases h
theorem Al8{w:World}{base n1 c1 n2 c2 n3 c3:Nat}{A1 A2 A3:Option Addr}{x:Nd}(h:Xc w base (.agg #[.slice A1 n1 c1,.int .u64 (x.val.toNat:Int),.slice A2 n2 c2,.slice A3 n3 c3]) x)(b1:n1<=1000000)(b2:n2<=1000000)(b3:n3<=1000000)(label:UInt8):
 Calls Tryz.prog 156 #[.agg #[.slice A1 n1 c1,.int .u64 (x.val.toNat:Int),.slice A2 n2 c2,.slice A3 n3 c3],.int .u8 (label.toNat:Int)] w fun e w'=>e= .returned (X7 x label)/\Below w.heap.size w w':=by
 obtain⟨_,_,_,_,_,_,e,p1,p2,p3⟩:=h;simp only [Value.agg.injEq]at e;simp at e;obtain⟨⟨rfl,rfl,rfl⟩,⟨rfl,rfl,rfl⟩,⟨rfl,rfl,rfl⟩⟩:=e;exact Aec _ _ _ _ _ _ _ _ _ x label w b1 b2 b3 (CB p1).2 (CB p2).2 (CB p3).2
section
variable{len:Mode}{w w':World}{x d p L:Nat}{s:St}{F:Nat->Prop}
theorem JM (h : IX len w x d p L s F) (key : ByteArray) (hk : key.size <= 1000) : Calls Tryz.prog 110 #[Aw x, .string key] w (nV s key.data.toList w) := by
  have HX := Aa h
  have nC := Aa (Alp key w (by omega))
  have kQ := Aa (fun (W : World) (hW : Below w.heap.size w W) => Zp (HX.out.below hW))
  have HRd := Aa (fun (W : World) (hW : Below w.heap.size w W) => JL (HX.out.below hW))
  have Aqj := h.box.lt
  clear h
  go_enter Tryz.func110, Tryz.ntmps110
  go_wp2_with fail
  refine nC.out.mono ?_
  rintro e w1 ⟨v, rfl, ho, hb1⟩
  obtain ⟨A, c, rfl, hc, hr⟩ := CO ho
  have HO1 := Aa ho
  clear nC ho hr
  go_wp2_with fail
  refine (kQ.out w1 hb1).mono ?_
  rintro e w2 ⟨rfl, hb2⟩
  have QB := Aa (own_below HO1.out hb2)
  have hb2' := hb1.trans (hb2.mono hb1.size)
  clear HO1 hb1 hb2 kQ
  go_wp2_with fail
  obtain ⟨W0, hW0⟩ : ∃ W0, W0 = w2.alloc (.cells #[.slice none 0 0, .int .u64 0, .slice none 0 0, .slice none 0 0, .int .i64 0, .int .u8 0, .int .i64 72] 214) := ⟨_, rfl⟩
  have al : Below w2.heap.size w2 W0 := by rw [hW0]; exact (Below.refl _ _).alloc (Ad _) _
  have BP : CG W0 w2.heap.size 214 [.slice none 0 0, .int .u64 0, .slice none 0 0, .slice none 0 0, .int .i64 0, .int .u8 0, .int .i64 72] := by rw [hW0]; exact heap_alloc_new _ _
  have hb0 : Below w.heap.size w W0 := hb2'.trans (al.mono hb2'.size)
  have hR0 := Qb.JI (own_below QB.out al) (by rw [Zr]; simp)
  rw [<- hW0]
  have hlen : (DR key.data.toList).length = 2 * key.size := by rw [Zr]; simp
  have hpb := hb2'.size
  obtain ⟨pb, Aqk⟩ : ∃ pb, w2.heap.size = pb := ⟨_, rfl⟩
  rw [Aqk] at BP hpb ⊢
  have HAt : Hid (Afe s L key.data.toList w pb (.slice A (2 * key.size) c) (.int .u64 ((s.ws 9).toNat : Int)) (.slice none 0 0) W0) :=
    Aa ⟨2 * key.size + 1, A, c, DR key.data.toList, s.ws 9, 0, 72, [], _, _, _, _, _, by rw [hlen], rfl, by simp [FQ], by omega, by omega, by simp [hlen], BP, NH.nil _ _, by simp [Ba], hR0, hb0⟩
  clear hW0 al BP hb0 hR0 QB hlen hc hb2' Aqk
  go_loopw [7, 8, 10] (fun u7 u8 u10 wr => Afe s L key.data.toList w pb u7 u8 u10 wr) (fun u7 _ _ _ => lenOf u7)
  case atStart => exact HAt.out
  case round =>
    clear HAt
    obtain ⟨f, A, c, rest, name, label, word, way, a0, a1, a2, a3, a4, rfl, rfl, hgo, hf, hcap, hlen, hB, J6, hne, hrs, hbw⟩ := hrel
    obtain ⟨f, rfl⟩ : ∃ f', f = f' + 1 := ⟨f - 1, by omega⟩
    have hpn := hB.lt
    have HB := Aa hB
    have Al9 := Aa J6
    have HNe := Aa hne
    have HRs := Aa hrs
    have Zt := Aa hgo
    have nU := Aa hbw
    have HLe := Aa (And.intro hf (And.intro hcap hlen))
    clear hB J6 hne hrs hgo hbw hf hcap hlen
    by_cases hz : name = 0
    · have HR : Hid (FQ s key.data.toList = some (way, rest)) := Aa (by rw [<- Zt.out, Ep, if_pos hz])
      have t0 : (((name.toNat : Nat) : Int) == 0) = true := by subst hz; rfl
      clear Zt
      go_wp2_with fail
      refine bodyPost_ret (v := .tuple #[u10, .slice A rest.length c, .int .i64 0]) (by simp [results, Tryz.results110, go_sem]) rfl ?_
      refine ⟨nU.out, ?_⟩
      rw [HR.out]
      exact ⟨_, A, c, rfl, Al9.out, HRs.out, HLe.out.2.1⟩
    · have t0 : (((name.toNat : Nat) : Int) == 0) = false := by
        rw [beq_eq_false_iff_ne]; intro e; apply hz
        exact UInt64.toNat_inj.1 (by have : name.toNat = 0 := by omega
                                     rw [this]; rfl)
      have f4 := HB.out.frozen 4
      have z4 := HB.out.cell 4
      simp only [Az, Aj] at z4
      have hwr : IntKind.i64.wrap (name.toNat : Int) = Bi name := rfl
      go_wp2_with fail
      have B1 := HB.out.AZ 4 (Au .i64 (Bi name))
      have s1 := CV.AZ HB.out 4 (Au .i64 (Bi name))
      have k1 := Kept.AZ wr pb 4 (Au .i64 (Bi name))
      have Ama := nU.out.setCell (p := ⟨pb, 4, none⟩) hpb (Au .i64 (Bi name))
      have hsz1 : w.heap.size <= wr.heap.size := nU.out.size
      generalize wr.setCell ⟨pb, 4, none⟩ (Au .i64 (Bi name)) = W1 at *
      have S1 := Aa s1
      replace B1 : CG W1 pb 214 [a0, a1, a2, a3, .int .i64 (Bi name), .int .u8 (label.toNat : Int), .int .i64 word] := B1
      have hsz2 : w.heap.size <= W1.heap.size := Bg hsz1 s1.1
      clear f4 z4 hwr s1
      refine (HRd.out W1 Ama name).mono ?_
      rintro e w3 ⟨hb3, hpost⟩
      have S3 := Aa (S1.out.trans (CV.of_below hb3))
      have K3 := Aa (k1.trans' (Kept.of_below hb3))
      clear k1
      have B3 := B1.below hb3 B1.lt
      have hbw3 := Ama.trans (hb3.mono hsz2)
      have hsz3 : w.heap.size <= w3.heap.size := Bg hsz2 hb3.size
      clear B1 Ama hb3 S1
      cases hrd : EZ s name with
      | none =>
        rw [hrd] at hpost
        dsimp only at hpost
        subst hpost
        have HR : Hid (FQ s key.data.toList = none) := Aa (by rw [<- Zt.out, Ep, if_neg hz, hrd])
        have f0 := B3.frozen 0
        have f1 := B3.frozen 1
        have f2 := B3.frozen 2
        have f3 := B3.frozen 3
        have z0 := B3.cell 0
        have z1 := B3.cell 1
        have z2 := B3.cell 2
        have z3 := B3.cell 3
        simp only [Az, Aj] at z0 z1 z2 z3
        clear hrd Zt
        go_wp2_with fail
        refine bodyPost_ret (v := .tuple #[.slice none 0 0, .slice none 0 0, .int .i64 5]) (by simp [results, Tryz.results110, go_sem]) rfl ?_
        refine ⟨(((hbw3.setCell (p := ⟨pb, 0, none⟩) hpb _).setCell (p := ⟨pb, 1, none⟩) hpb _).setCell (p := ⟨pb, 2, none⟩) hpb _).setCell (p := ⟨pb, 3, none⟩) hpb _, ?_⟩
        rw [HR.out]
      | some nd =>
        rw [hrd] at hpost
        dsimp only at hpost
        obtain ⟨v, rfl, A1, c1, A2, c2, A3, c3, rfl, o1, o2, o3⟩ := hpost
        have HNd := Aa (show Xc w3 w.heap.size (.agg #[.slice A1 nd.pre.length c1, .int .u64 (nd.val.toNat : Int), .slice A2 nd.labels.length c2, .slice A3 nd.kids.length c3]) nd from Xc.mono ⟨A1, c1, A2, c2, A3, c3, rfl, o1, o2, o3⟩ hsz2)
        have Amb := Aa hrd
        clear hrd o1 o2 o3
        have f0 := B3.frozen 0
        have f1 := B3.frozen 1
        have f2 := B3.frozen 2
        have f3 := B3.frozen 3
        have z0 := B3.cell 0
        have z1 := B3.cell 1
        have z2 := B3.cell 2
        have z3 := B3.cell 3
        have z4 := B3.cell 4
        have z5 := B3.cell 5
        have z6 := B3.cell 6
        simp only [Az, Aj] at z0 z1 z2 z3 z4 z5 z6
        obtain ⟨vs, hvo, hvp⟩ := Al9.out
        have B5 := (((B3.AZ 0 (Ac A1 nd.pre.length c1)).AZ 1 (Au .u64 (nd.val.toNat : Int))).AZ 2 (Ac A2 nd.labels.length c2)).AZ 3 (Ac A3 nd.kids.length c3)
        have jg := (((hbw3.setCell (p := ⟨pb, 0, none⟩) hpb (Ac A1 nd.pre.length c1)).setCell (p := ⟨pb, 1, none⟩) hpb (Au .u64 (nd.val.toNat : Int))).setCell (p := ⟨pb, 2, none⟩) hpb (Ac A2 nd.labels.length c2)).setCell (p := ⟨pb, 3, none⟩) hpb (Ac A3 nd.kids.length c3)
        have S5 := S3.out.trans ((((CV.AZ B3 0 (Ac A1 nd.pre.length c1)).trans (CV.AZ (B3.AZ 0 _) 1 (Au .u64 (nd.val.toNat : Int)))).trans (CV.AZ ((B3.AZ 0 _).AZ 1 _) 2 (Ac A2 nd.labels.length c2))).trans (CV.AZ (((B3.AZ 0 _).AZ 1 _).AZ 2 _) 3 (Ac A3 nd.kids.length c3)))
        have K5 := K3.out.trans' ((((Kept.AZ _ pb 0 (Ac A1 nd.pre.length c1)).trans' (Kept.AZ _ pb 1 (Au .u64 (nd.val.toNat : Int)))).trans' (Kept.AZ _ pb 2 (Ac A2 nd.labels.length c2))).trans' (Kept.AZ _ pb 3 (Ac A3 nd.kids.length c3)))
        have HV5 := Aa (EO hvo K5 (.inl HNe.out))
        have Amc := Aa (((((CV.AZ B3 0 (Ac A1 nd.pre.length c1)).trans (CV.AZ (B3.AZ 0 _) 1 (Au .u64 (nd.val.toNat : Int)))).trans (CV.AZ ((B3.AZ 0 _).AZ 1 _) 2 (Ac A2 nd.labels.length c2))).trans (CV.AZ (((B3.AZ 0 _).AZ 1 _).AZ 2 _) 3 (Ac A3 nd.kids.length c3))).nd HNd.out)
        have HS5 := Aa S5
        have Jy := Aa B5
        have Aql := Aa jg
        have HP5 := Aa (HS5.out.pls vs way hvp)
        have hw5 := jg.size
        have hmm : way.length <= 1000000 := by have := HLe.out; simp at this; omega
        clear S5 K5 B5 jg hvo hvp
        go_wp2_with (at_builtin; refine Eh rfl (.tmp 42) (.tmp 44) 208 rfl Tryz.Afd ((((w3.setCell ⟨pb, 0, none⟩ (Ac A1 nd.pre.length c1)).setCell ⟨pb, 1, none⟩ (Au .u64 (nd.val.toNat : Int))).setCell ⟨pb, 2, none⟩ (Ac A2 nd.labels.length c2)).setCell ⟨pb, 3, none⟩ (Ac A3 nd.kids.length c3)) w.heap.size u10 way.length vs.flatten [Ac A1 nd.pre.length c1, Au .u64 (nd.val.toNat : Int), Ac A2 nd.labels.length c2, Ac A3 nd.kids.length c3, .int .i64 (Bi name), .int .u8 (label.toNat : Int), .int .i64 word] rfl HV5.out rfl w3.heap.size 1 rfl (by simp [D6, OB]) rfl (by decide) (by simp [Value.oneCell']) hmm (by decide) hw5 ?_; intro g6 c6 w6 Xa Nz hK6 kR; have B6 := (hK6.2 pb Jy.out.lt HNe.out).trans Jy.out; obtain ⟨y0, y1, y2, y3, y4, y5, y6⟩ := ED B6)
        have s6 := CV.kept HV5.out hK6
        have KO : Hid (CG w6 pb 214 [.slice A1 nd.pre.length c1, .int .u64 (nd.val.toNat : Int), .slice A2 nd.labels.length c2, .slice A3 nd.kids.length c3, .int .i64 (Bi name), .int .u8 (label.toNat : Int), .int .i64 word]) := Aa B6
        have HW6 := Aa (NH.app HP5.out (p := ⟨nd, Bi name, label, word⟩) ⟨_, _, _, _, rfl, Amc.out⟩ s6 Xa)
        have Amd := Aa ((HS5.out.trans s6).rs HRs.out)
        have Ame := Aa (s6.nd Amc.out)
        have Amf := Aa (Aql.out.trans Nz)
        have Aqm : Hid (pb ≠ g6) := Aa (fun e => by
          rcases kR with h6 | h6
          · exact HNe.out (by rw [h6, e])
          · have := Jy.out.lt; omega)
        clear s6 B6 Xa Nz hK6 kR HV5 HP5 Amc HS5 Jy Aql Al9 HRs HB HNe nU HNd S3 K3 B3 hbw3 f0 f1 f2 f3 z0 z1 z2 z3 z4 z5 z6 hw5
        obtain ⟨b1, b2, b3⟩ := FM Amb.out
        obtain ⟨kk, hkk⟩ : ∃ kk, kk = common nd.pre rest := ⟨_, rfl⟩
        have hrl : rest.length <= 4294967296 := by have := HLe.out; simp at this; omega
        refine (KX A1 A nd.pre.length rest.length c1 c nd.pre rest w6 (by omega) hrl (by obtain ⟨_, _, _, _, _, _, e, p1, _, _⟩ := Ame.out; simp only [Value.agg.injEq] at e; simp at e; obtain ⟨⟨rfl, rfl⟩, _⟩ := e; exact (CB p1).2) Amd.out.1).mono ?_
        rintro e w7 ⟨rfl, hd7⟩
        rw [<- hkk]
        have Aff := hd7.below w6.heap.size
        have s7 : CV 214 w6 w7 := CV.of_below Aff
        have B7 := KO.out.below Aff KO.out.lt
        have HW7 : Hid (NH w7 w.heap.size (.slice (some ⟨g6, 0, none⟩) (way.length + 1) c6) (way ++ [⟨nd, Bi name, label, word⟩])) := Aa (by
          obtain ⟨vs', q1, q2⟩ := HW6.out
          exact ⟨vs', EO q1 (Kept.of_below (r := none) Aff) (.inl (by simp [Ba])), s7.pls _ _ q2⟩)
        have Aiu := Aa (s7.rs Amd.out)
        have Atr := Aa (s7.nd Ame.out)
        have Afg := Aa (Amf.out.trans (Aff.mono Amf.out.size))
        have aY := Aa B7
        obtain ⟨y0, y1, y2, y3, y4, y5, y6⟩ := ED B7
        have Abl : Hid ((if kk < nd.pre.length \/ kk = rest.length then some (way ++ [⟨nd, Bi name, label, word⟩], rest) else
            match Ov nd (rest.getD kk 0) with
            | none => some (way ++ [⟨nd, Bi name, label, word⟩], rest)
            | some (kid, number) => Ep s f kid (rest.drop (kk + 1)) (rest.getD kk 0) (Bi name + 8 * number) (way ++ [⟨nd, Bi name, label, word⟩])) = FQ s key.data.toList) := Aa (by
          rw [<- Zt.out, Ep, if_neg hz, Amb.out, hkk]
          rfl)
        have HKk := Aa hkk
        clear hd7 Aff s7 B7 HW6 Amd Ame Amf KO hkk Zt
        by_cases hs : kk < nd.pre.length \/ kk = rest.length
        · have HR : Hid (FQ s key.data.toList = some (way ++ [⟨nd, Bi name, label, word⟩], rest)) := Aa (by rw [<- Abl.out, if_pos hs])
          have fin : nV s key.data.toList w (.returned (.tuple #[.slice (some ⟨g6, 0, none⟩) (way.length + 1) c6, .slice A rest.length c, .int .i64 0])) w7 := by
            refine ⟨Afg.out, ?_⟩
            rw [HR.out]
            exact ⟨_, A, c, rfl, HW7.out, Aiu.out, HLe.out.2.1⟩
          have HFin := Aa fin
          clear fin HR Abl
          by_cases hs1 : kk < nd.pre.length
          · have t1 : decide ((kk : Int) < (nd.pre.length : Int)) = true := decide_eq_true (by omega)
            have t1' : decide (kk < nd.pre.length) = true := decide_eq_true hs1
            clear hs hs1
            go_wp2_with fail
            refine bodyPost_ret (v := .tuple #[.slice (some ⟨g6, 0, none⟩) (way.length + 1) c6, .slice A rest.length c, .int .i64 0]) (by simp [results, Tryz.results110, go_sem]) rfl HFin.out
          · have t1 : decide ((kk : Int) < (nd.pre.length : Int)) = false := decide_eq_false (by omega)
            have t1' : decide (kk < nd.pre.length) = false := decide_eq_false hs1
            have t2 : ((kk : Int) == (rest.length : Int)) = true := by rw [beq_iff_eq]; omega
            have t2' : (kk == rest.length) = true := by rw [beq_iff_eq]; omega
            clear hs hs1
            go_wp2_with fail
            refine bodyPost_ret (v := .tuple #[.slice (some ⟨g6, 0, none⟩) (way.length + 1) c6, .slice A rest.length c, .int .i64 0]) (by simp [results, Tryz.results110, go_sem]) rfl HFin.out
        · have hs1 : ¬ kk < nd.pre.length := fun e => hs (.inl e)
          have hs2 : kk ≠ rest.length := fun e => hs (.inr e)
          have hkl : kk < rest.length := by have := Fp nd.pre rest; rw [<- HKk.out] at this; omega
          have Afh := Aa Abl.out
          rw [if_neg hs] at Afh
          have t1 : decide ((kk : Int) < (nd.pre.length : Int)) = false := decide_eq_false (by omega)
          have t1' : decide (kk < nd.pre.length) = false := decide_eq_false hs1
          have t2 : ((kk : Int) == (rest.length : Int)) = false := by rw [beq_eq_false_iff_ne]; omega
          have t2' : (kk == rest.length) = false := by rw [beq_eq_false_iff_ne]; exact hs2
          obtain ⟨b, off, rfl, hb, hcs⟩ := Aiu.out.1.2 (by omega)
          have hck : w7.cell? ⟨b, off + kk, none⟩ = some (.int .u8 ((rest.getD kk 0).toNat : Int)) := by
            rw [hcs kk hkl, BZ, Af hkl, List.getD_eq_getElem?_getD, Af hkl]; rfl
          generalize rest.getD kk 0 = lab at *
          clear hcs Abl hs hs1 hs2
          have Aiv := Aa (fun (W : World) (hW : Below w7.heap.size w7 W) => Al8 ((CV.of_below hW).nd Atr.out) (by omega) (by omega) (by omega) lab)
          have hx1 : (decide ((0 : Int) <= (kk : Int))) = true := decide_eq_true (by omega)
          have hx2 : (decide ((kk : Int) < (rest.length : Int))) = true := decide_eq_true (by omega)
          cases hkd : Ov nd lab with
          | none =>
            have HV := Aa (Abk hkd)
            rw [HV.out] at Aiv
            have HR : Hid (FQ s key.data.toList = some (way ++ [⟨nd, Bi name, label, word⟩], rest)) := Aa (by rw [<- Afh.out, hkd])
            clear hkd Afh
            go_wp2_with fail
            go_region_with (go_at_call 156; go_loud (refine (Aiv.out _ ((Dr.drew _).below _)).mono ?_; rintro e w8 ⟨rfl, hb8⟩))
            all_goals (have Zu := ((Dr.drew w7).below w7.heap.size).trans hb8)
            all_goals (have s8 : CV 214 w7 w8 := CV.of_below Zu)
            all_goals (have HW8 : Hid (NH w8 w.heap.size (.slice (some ⟨g6, 0, none⟩) (way.length + 1) c6) (way ++ [⟨nd, Bi name, label, word⟩])) := Aa (by
              obtain ⟨vs', q1, q2⟩ := HW7.out
              exact ⟨vs', EO q1 (Kept.of_below (r := none) Zu) (.inl (by simp [Ba])), s8.pls _ _ q2⟩))
            all_goals (have Aiw := Aa (s8.rs Aiu.out))
            all_goals (have Aix := Aa (Afg.out.trans (Zu.mono Afg.out.size)))
            all_goals (clear Zu s8 hb8)
            all_goals (go_wp2_with fail)
            all_goals (refine bodyPost_ret (v := .tuple #[.slice (some ⟨g6, 0, none⟩) (way.length + 1) c6, .slice (some ⟨b, off, none⟩) rest.length c, .int .i64 0]) (by simp [results, Tryz.results110, go_sem]) rfl ?_)
            all_goals (refine ⟨Aix.out, ?_⟩)
            all_goals (rw [HR.out])
            all_goals (exact ⟨_, _, c, rfl, HW8.out, Aiw.out, HLe.out.2.1⟩)
          | some kn =>
            obtain ⟨kid, number⟩ := kn
            have HV := Aa (Abj hkd)
            rw [HV.out] at Aiv
            have hnum := vK hkd b3
            have Ats : Hid (Ep s f kid (rest.drop (kk + 1)) lab (Bi name + 8 * number) (way ++ [⟨nd, Bi name, label, word⟩]) = FQ s key.data.toList) := Aa (by rw [<- Afh.out, hkd])
            have hw1 : IntKind.i64.wrap (8 * (number : Int)) = 8 * (number : Int) := wrap64 _ (by omega) (by omega)
            have hro := Rj HX.out Amb.out
            have hw2 : IntKind.i64.wrap (Bi name + 8 * (number : Int)) = Bi name + 8 * (number : Int) := wrap64 _ (by omega) (by omega)
            have hw3 : IntKind.i64.wrap ((kk : Int) + 1) = (kk : Int) + 1 := wrap64 _ (by omega) (by have := HLe.out; simp at this; omega)
            clear hro
            clear hkd Afh
            go_wp2_with fail
            go_region_with (go_at_call 156; go_loud (refine (Aiv.out _ ((Dr.drew _).below _)).mono ?_; rintro e w8 ⟨rfl, hb8⟩))
            all_goals (have Zu := ((Dr.drew w7).below w7.heap.size).trans hb8)
            all_goals (have s8 : CV 214 w7 w8 := CV.of_below Zu)
            all_goals (have HW8 : Hid (NH w8 w.heap.size (.slice (some ⟨g6, 0, none⟩) (way.length + 1) c6) (way ++ [⟨nd, Bi name, label, word⟩])) := Aa (by
              obtain ⟨vs', q1, q2⟩ := HW7.out
              exact ⟨vs', EO q1 (Kept.of_below (r := none) Zu) (.inl (by simp [Ba])), s8.pls _ _ q2⟩))
            all_goals (have Aiw := Aa (s8.rs Aiu.out))
            all_goals (have Aix := Aa (Afg.out.trans (Zu.mono Afg.out.size)))
            all_goals (have az := Aa (aY.out.below Zu aY.out.lt))
            all_goals (have Att := (Zu.cell (p := ⟨b, off + kk, none⟩) hb).trans hck)
            all_goals (clear Zu s8 hb8)
            all_goals (clear hck y0 y1 y2 y3 y4 y5 y6)
            all_goals (obtain ⟨y0, y1, y2, y3, y4, y5, y6⟩ := ED az.out)
            all_goals (have f5 := az.out.frozen 5)
            all_goals (have f6 := az.out.frozen 6)
            all_goals (go_wp2_with fail)
            all_goals (go_region)
            all_goals (have B9 := (az.out.AZ 5 (Au .u8 (lab.toNat : Int))).AZ 6 (Au .i64 (Bi name + 8 * (number : Int))))
            all_goals (have s9 := (CV.AZ az.out 5 (Au .u8 (lab.toNat : Int))).trans (CV.AZ (az.out.AZ 5 (Au .u8 (lab.toNat : Int))) 6 (Au .i64 (Bi name + 8 * (number : Int)))))
            all_goals (have k9 := (Kept.AZ w8 pb 5 (Au .u8 (lab.toNat : Int))).trans' (Kept.AZ _ pb 6 (Au .i64 (Bi name + 8 * (number : Int)))))
            all_goals (have Aqn := (Aix.out.setCell (p := ⟨pb, 5, none⟩) hpb (Au .u8 (lab.toNat : Int))).setCell (p := ⟨pb, 6, none⟩) hpb (Au .i64 (Bi name + 8 * (number : Int))))
            all_goals (have hd9 := (Dr.drew ((w8.setCell ⟨pb, 5, none⟩ (Au .u8 (lab.toNat : Int))).setCell ⟨pb, 6, none⟩ (Au .i64 (Bi name + 8 * (number : Int))))).below w.heap.size)
            all_goals (obtain ⟨W9, Vt⟩ : ∃ W9, W9 = World.drew ((w8.setCell ⟨pb, 5, none⟩ (Au .u8 (lab.toNat : Int))).setCell ⟨pb, 6, none⟩ (Au .i64 (Bi name + 8 * (number : Int)))) := ⟨_, rfl⟩)
            all_goals (have HW9 : Hid (NH W9 w.heap.size (.slice (some ⟨g6, 0, none⟩) (way.length + 1) c6) (way ++ [⟨nd, Bi name, label, word⟩])) := Aa (by
              obtain ⟨vs', q1, q2⟩ := HW8.out
              rw [Vt]
              exact ⟨vs', EO q1 k9 (.inl (by simp [Ba, Aqm.out])), (s9.trans (CV.of_below ((Dr.drew _).below _))).pls _ _ q2⟩))
            all_goals (have Atu : Hid (Qb W9 w.heap.size (some ⟨b, off, none⟩) rest) := Aa (by rw [Vt]; exact s9.rs Aiw.out))
            all_goals (have Aqo : Hid (Below w.heap.size w W9) := Aa (by rw [Vt]; exact Aqn.trans hd9))
            all_goals (have vM : Hid (CG W9 pb 214 [.slice A1 nd.pre.length c1, .int .u64 (nd.val.toNat : Int), .slice A2 nd.labels.length c2, .slice A3 nd.kids.length c3, .int .i64 (Bi name), .int .u8 (lab.toNat : Int), .int .i64 (Bi name + 8 * (number : Int))]) := Aa (by rw [Vt]; exact B9))
            all_goals (rw [<- Vt])
            all_goals (clear B9 s9 k9 Aqn hd9 Vt az HW8 Aiw Aix y0 y1 y2 y3 y4 y5 y6 f5 f6 Att)
            all_goals (go_wp2_with fail)
            all_goals (go_quiet (fail))
            all_goals (have ⟨hLf, hLc, hLl⟩ := HLe.out)
            all_goals (go_roundw)
            all_goals first
              | (case measure => (simp [lenOf]; omega))
              | (case rel =>
                 refine ⟨_, _, _, _, _, _, _, _, _, _, _, _, _, _, _, _, _, _, _, _, _, _, _, _, _, _, _, _, _, _, _, _, _, _, _, _, _, _, _, _, _, _, _, _, _, _, _, _, _, _, _, _, _, _, _, _, _, _, _, _, _, _, _, _, _, _, _, _, _, _, _, _, _, _, _, _, ?_, rfl⟩
                 refine ⟨f, (if c = kk + 1 then some ⟨b, off, none⟩ else some ⟨b, off + (kk + 1), none⟩), c - (kk + 1), rest.drop (kk + 1), kid, lab, Bi name + 8 * (number : Int), way ++ [⟨nd, Bi name, label, word⟩], _, _, _, _, _, (by rw [AV]), rfl, Ats.out, (by rw [AV]; omega), (by rw [AV]; omega), (by rw [AQ, AV]; simp only [List.length_singleton]; omega), vM.out, ?_, (by simp [Ba, Aqm.out]), Atu.out.cut (kk + 1) (by omega) hLc, ?_⟩
                 · first
                   | (have hww := HW9.out; rw [AQ]; exact hww)
                   | exact HW9.out
                   | (obtain ⟨vs', q1, q2⟩ := HW9.out; exact ⟨vs', q1, (CV.of_below ((Dr.one W9 _).below _)).pls _ _ q2⟩)
                 · first
                   | exact Aqo.out
                   | exact Aqo.out.trans ((Dr.one _ _).below _))
end
structure Abm(L:Nat)(pl:Pl):Prop where
 word:∃j:Nat,pl.word=((8*j:Nat):Int)/\j<8*L
 off:∃o:Nat,pl.off=((8*o:Nat):Int)/\o+8<=8*L
 right:Ci pl.nd=true
 kids:pl.nd.kids.length<=16
 labels:pl.nd.labels.length<=16
theorem jh{L:Nat}{s:St}(ok:aX L s.sh)(FT:s.tk.length=s.sh.BI){name:UInt64}{nd:Nd}(h:EZ s name=some nd):
 Ci nd=true/\∃o:Nat,Bi name=((8*o:Nat):Int)/\o+(if nd.kids.length<=4 then 8 else 32)<=8*L:=by
 unfold EZ at h;split at h
 ·cases h
 ·rename_i h0;obtain⟨i,a,hi,ho,hk,hf⟩:=UT h0;split at h
  ·rename_i hd;injection h with h
   subst h;have hd':=hd;unfold IG at hd';simp only [Bool.and_eq_true,decide_eq_true_eq]at hd';have hl:=EL (ET (wordsAt s.ws ((Bi name).toNat/8) (8*Be (D5 s (Bi name)))));rw [hd'.2.2]at hl;have hwl:(wordsAt s.ws ((Bi name).toNat/8) (8*Be (D5 s (Bi name)))).length=8*Be (D5 s (Bi name)):=by simp [wordsAt]
   rw [hwl]at hl;refine⟨hd'.2.1,(s.sh.data+1024*i+64*Be (D5 s (Bi name))*a)/8,?_⟩;rw [<-hl];have h1:=ok.fits;have h2:=ok.data;rw [FT]at hi;clear hl hwl hd' hd h0;generalize Be (D5 s (Bi name))=m at*;generalize Bi name=off at*;subst ho;rcases hk with rfl| rfl<;>constructor<;>omega
  ·cases h
theorem Amg{nd:Nd}{lab:UInt8}{kid:UInt64}{number:Nat}(h:Ov nd lab=some (kid,number)):number<(if nd.kids.length<=4 then 8 else 32):=by
 unfold Ov Jr at h;split at h
 ·rename_i i hi;obtain⟨hil,hq,_⟩:=KD.1 hi;split at h
  ·rename_i hr;obtain⟨_,_,hlk,hn,_⟩:=(Bo _).1 hr;have hlab:lab.toNat<16:=by
    have:=List.all_eq_true.1 hn _ (List.getElem_mem hil);simp only [beq_iff_eq]at hq;unfold DL at this;simp only [decide_eq_true_eq]at this;omega
   injection h with h
   injection h with h1 h2
   subst h2;split
   ·omega
   ·omega
  ·cases h
 ·cases h
theorem dR{L:Nat}{s:St}(ok:aX L s.sh)(FT:s.tk.length=s.sh.BI):∀(f:Nat)(name:UInt64)(rest:List UInt8)(label:UInt8)(word:Int)(way bf:List Pl)(rest':List UInt8),
 (∃j:Nat,word=((8*j:Nat):Int)/\j<8*L)->(∀pl∈way,Abm L pl)->Ep s f name rest label word way=some (bf,rest')->(∀pl∈bf,Abm L pl)/\rest'.length<=rest.length
 | 0,name,rest,label,word,way,bf,rest',hw,hp,h=>by
   rw [Ep]at h;injection h with h
   injection h with h1 h2
   subst h1 h2;exact⟨hp,Ad _⟩
 | f+1,name,rest,label,word,way,bf,rest',hw,hp,h=>by
   rw [Ep]at h;split at h
   ·injection h with h
    injection h with h1 h2
    subst h1 h2;exact⟨hp,Ad _⟩
   ·split at h
    ·cases h
    ·rename_i nd hr;obtain⟨hR,o,ho,hfit⟩:=jh ok FT hr;obtain⟨b1,b2,b3⟩:=FM hr;have hpl:∀pl∈way++[⟨nd,Bi name,label,word⟩],Abm L pl:=by
      intro pl hm;rcases AL.1 hm with hm| hm
      ·exact hp pl hm
      ·rw [BC]at hm;subst hm;exact⟨hw,⟨o,ho,by split at hfit<;>omega⟩,hR,b2,b3⟩
     split at h
     ·injection h with h
      injection h with h1 h2
      subst h1 h2;exact⟨hpl,Ad _⟩
     ·split at h
      ·injection h with h
       injection h with h1 h2
       subst h1 h2;exact⟨hpl,Ad _⟩
      ·rename_i kid number hkd;have hk:=Amg hkd;obtain⟨q1,q2⟩:=dR ok FT f kid _ _ _ _ bf rest' ⟨o+number,by rw [ho];omega,by omega⟩ hpl h;refine⟨q1,?_⟩;rw [AV]at q2;omega
theorem SB{L:Nat}{s:St}(ok:aX L s.sh)(l0:1<L)(FT:s.tk.length=s.sh.BI){key:List UInt8}{way:List Pl}{rest:List UInt8}(h:FQ s key=some (way,rest)):(∀pl∈way,Abm L pl)/\rest.length<=2*key.length:=by
 have:=dR ok FT _ _ _ _ _ _ _ _ ⟨9,rfl,by omega⟩ (by intro pl h;cases h) h;rw [Zr]at this;exact this
theorem Rk:∀(a b:List UInt8),common a b=a.length->common a b=b.length->a=b:=by
 intro a b h1 h2;induction a generalizing b with
 | nil=>cases b with
   | nil=>rfl
   | cons y t=>simp [common]at h2
 | cons x t ih=>cases b with
   | nil=>simp [common]at h1
   | cons y t'=>
     simp only [common]at h1 h2;split at h1
     ·rename_i e;rw [if_pos e]at h2;simp only [List.length_cons]at h1 h2;rw [ih t' (by omega) (by omega)]
      simp_all
     ·simp at h1
def zv(k:Int):Value:= .int .i64 k
abbrev IxM(w:World)(x d p L:Nat)(q:Ms)(F:Nat->Prop):Prop:=IX q.pw.mode w x d p L q.s F
structure NS(w:World)(base jb x d p L:Nat)(j:Jm)(F:Nat->Prop)(v:Value):Prop where
 ix:IxM w x d p L j.s F
 box:CG w jb 219 [Aw x,v]
 row:w.ownsRow base 3 1 v j.made.length (j.made.map zv)
 fj:¬F jb
 bj:base<=jb
 bx:x<base
 bt:0<base/\1<base
 mj:v.ownBlock≠some jb
 mF:∀b,v.ownBlock=some b->¬F b
 mb:∀o∈j.made, -9223372036854775808<=o/\o<=9223372036854775807
def FU(w:World)(base jb x d p L:Nat)(j:Jm)(G:Nat->Prop):Prop:=∃F v,NS w base jb x d p L j F v/\∀b,G b<->(F b\/b=jb\/v.ownBlock=some b)
section
variable{w w':World}{base jb x d p L:Nat}{j:Jm}{F G:Nat->Prop}{v:Value}
theorem NS.xj(h:NS w base jb x d p L j F v):x≠jb:=by have:=h.bj;have:=h.bx;omega
theorem NS.mlt(h:NS w base jb x d p L j F v):∀b,v.ownBlock=some b->base<=b/\b<w.heap.size:=by
 intro b hb;rcases h.row.2 with⟨h1,_⟩| ⟨g,cap,cur,h1,h2,h3,_⟩
 ·subst h1;simp [Ba]at hb
 ·subst h1;simp only [Ba,Option.some.injEq]at hb;subst hb;exact⟨h2,(AB.1 h3).1⟩
theorem NS.mx(h:NS w base jb x d p L j F v):v.ownBlock≠some x:=fun e=>by have:=(h.mlt x e).1;have:=h.bx;omega
theorem NS.below(h:NS w base jb x d p L j F v)(k:Below w.heap.size w w'):NS w' base jb x d p L j F v:=
 ⟨h.ix.below k,h.box.below k h.box.lt,EO h.row (Kept.of_below (r:=some jb) k) (.inl (fun e=>h.mj e.symm)),h.fj,h.bj,h.bx,h.bt,h.mj,h.mF,h.mb⟩
theorem FU.below(h:FU w base jb x d p L j G)(k:Below w.heap.size w w'):FU w' base jb x d p L j G:=by
 obtain⟨F,v,h,hG⟩:=h;exact⟨F,v,h.below k,hG⟩
theorem FU.lt(h:FU w base jb x d p L j G):∀b,G b->b<w.heap.size:=by
 obtain⟨F,v,h,hG⟩:=h;intro b hb;rcases(hG b).1 hb with h1| rfl| h1
 ·exact h.ix.sys.lt b h1
 ·exact h.box.lt
 ·exact(h.mlt b h1).2
theorem NS.move(h:NS w base jb x d p L j F v)(hG:∀b,G b<->(F b\/b=jb\/v.ownBlock=some b)){s':Ms}{F':Nat->Prop}(hs:QC w' d p L s' F')(m:AO F F' w w'):
 ∃G',NS w' base jb x d p L {j with s:=s'} F' v/\(∀b,G' b<->(F' b\/b=jb\/v.ownBlock=some b))/\AO G G' w w':=by
 have hjl:=h.box.lt;refine⟨fun b=>F' b\/b=jb\/v.ownBlock=some b,⟨h.ix.move hs m,h.box.touch m.touch h.fj,H6 h.row m.touch h.mF,fun h'=>(m.own _ h').elim h.fj (fun h''=>by omega),h.bj,h.bx,h.bt,h.mj,fun b hb h'=>(m.own _ h').elim (h.mF b hb) (fun h''=>by have:=(h.mlt b hb).2;omega),h.mb⟩,fun _=>Iff.rfl,m.touch.mono (fun b hb=>(hG b).2 (.inl hb)),fun b hb=> ?_⟩;rcases hb with h1| h1
 ·exact(m.own b h1).imp (fun h2=>(hG b).2 (.inl h2)) id
 ·exact .inl ((hG b).2 (.inr h1))
theorem NS.app(h:NS w base jb x d p L j F v)(hG:∀b,G b<->(F b\/b=jb\/v.ownBlock=some b)){o:Int}(ho: -9223372036854775808<=o/\o<=9223372036854775807){g c:Nat}{w1:World}
 (hown:w1.ownsRow base 3 1 (.slice (some ⟨g,0,none⟩) (j.made.length+1) c) (j.made.length+1) (j.made.map zv++[zv o]))(hb:Below base w w1)(hk:Kept w w1 v.ownBlock)(hg:v.ownBlock=some g\/w.heap.size<=g):
 ∃G',NS (w1.setCell ⟨jb,1,none⟩ (.slice (some ⟨g,0,none⟩) (j.made.length+1) c)) base jb x d p L {j with made:=j.made++[o]} F (.slice (some ⟨g,0,none⟩) (j.made.length+1) c)/\
  (∀b,G' b<->(F b\/b=jb\/(Ac (some ⟨g,0,none⟩) (j.made.length+1) c).ownBlock=some b))/\AO G G' w (w1.setCell ⟨jb,1,none⟩ (.slice (some ⟨g,0,none⟩) (j.made.length+1) c)):=by
 have hjl:=h.box.lt;have hxl:=h.ix.box.lt;have hgj:g≠jb:=by
  rintro rfl;rcases hg with e| e
  ·exact h.mj e
  ·omega
 have hgF:¬F g:=by
  intro hf;rcases hg with e| e
  ·exact h.mF g e hf
  ·have:=h.ix.sys.lt g hf;omega
 have t1:Touch (fun b=>v.ownBlock=some b) w w1:=⟨hb.os,hb.tape,hb.output,hk.1,fun b hb' hn=>hk.2 b hb' (fun e=>hn e.symm)⟩;have t2:Touch (fun b=>b=jb\/v.ownBlock=some b) w (w1.setCell ⟨jb,1,none⟩ (.slice (some ⟨g,0,none⟩) (j.made.length+1) c)):=(t1.mono (fun b=> .inr)).setCell (p:=⟨jb,1,none⟩) (.inl (.inl rfl)) _;have htb:∀{b:Nat},b<base->¬(b=jb\/v.ownBlock=some b):=by
  intro b hb' e;rcases e with rfl| e
  ·have:=h.bj;omega
  ·have:=(h.mlt b e).1;omega
 have hs:QC (w1.setCell ⟨jb,1,none⟩ (.slice (some ⟨g,0,none⟩) (j.made.length+1) c)) d p L j.s F:=h.ix.sys.keep t2 (fun b hb' hn=>hn.elim (fun e=>h.fj (e▸hb')) (fun e=>h.mF b e hb')) (htb h.bt.1) (htb h.bt.2);have hB1:CG w1 jb 219 [Aw x,v]:=(hk.2 jb hjl (fun e=>h.mj e.symm)).trans h.box;refine⟨fun b=>F b\/b=jb\/(Ac (some ⟨g,0,none⟩) (j.made.length+1) c).ownBlock=some b,⟨⟨hs,h.ix.box.touch t2 (fun e=>e.elim h.xj h.mx),h.ix.out⟩,hB1.AZ 1 _,?_,h.fj,h.bj,h.bx,h.bt,by simp [Ba,hgj],?_,?_⟩,fun _=>Iff.rfl,?_⟩
 ·have:=EO hown (Kept.AZ w1 jb 1 (.slice (some ⟨g,0,none⟩) (j.made.length+1) c)) (.inl (by simp [Ba,Ne.symm hgj]));simpa using this
 ·intro b hb';simp only [Ba,Option.some.injEq]at hb';exact hb'▸hgF
 ·intro o' ho';rcases AL.1 ho' with h1| h1
  ·exact h.mb o' h1
  ·rw [BC]at h1;exact h1▸ho
 ·refine⟨t2.mono (fun b hb'=>(hG b).2 (.inr hb')),fun b hb'=> ?_⟩;rcases hb' with h1| h1| h1
  ·exact .inl ((hG b).2 (.inl h1))
  ·exact .inl ((hG b).2 (.inr (.inl h1)))
  ·simp only [Ba,Option.some.injEq]at h1;rcases hg with e| e
   ·exact .inl ((hG b).2 (.inr (.inr (h1▸e))))
   ·exact .inr (h1▸e)
theorem AO.out{G':Nat->Prop}(m:AO G G' w w'){b:Nat}(hb:b<w.heap.size)(h:¬G b):¬G' b:=fun h'=>(m.own b h').elim h (fun h''=>by omega)
end
theorem nX:∀(a b:List UInt8),Op.bytesLess a b=false->Op.bytesLess b a=true\/a=b
 | [],[],_=> .inr rfl
 | [],_::_,h=>by simp [Op.bytesLess]at h
 | _::_,[],_=> .inl rfl
 | x::a,y::b,h=>by
   simp only [Op.bytesLess,Bool.or_eq_false_iff,decide_eq_false_iff_not,Bool.and_eq_false_iff,beq_eq_false_iff_ne]at h;obtain⟨h1,h2⟩:=h;simp only [Op.bytesLess,Bool.or_eq_true,decide_eq_true_eq,Bool.and_eq_true,beq_iff_eq,List.cons.injEq];by_cases e:x=y
   ·subst e;have h3:=h2.resolve_left (fun h=>h rfl);rcases nX a b h3 with h4| h4
    ·exact .inl (.inr ⟨rfl,h4⟩)
    ·exact .inr ⟨rfl,h4⟩
   ·refine .inl (.inl ?_);rw [UInt8.lt_iff_toNat_lt]at h1⊢;have:x.toNat≠y.toNat:=fun h=>e (UInt8.toNat_inj.1 h)
    omega
theorem Fb:∀(a:List UInt8),Op.bytesLess a a=false
 | []=>rfl
 | x::a=>by simp [Op.bytesLess,Fb a]
theorem Xd:∀(a b c:List UInt8),Op.bytesLess a b=true->Op.bytesLess b c=true->Op.bytesLess a c=true
 | _,[],_,h,_=>by simp [Op.bytesLess]at h
 | _,_::_,[],_,h=>by simp [Op.bytesLess]at h
 | [],_::_,_::_,_,_=>rfl
 | x::a,y::b,z::c,h,k=>by
   simp only [Op.bytesLess,Bool.or_eq_true,decide_eq_true_eq,Bool.and_eq_true,beq_iff_eq]at h k⊢;simp only [UInt8.lt_iff_toNat_lt]at h k⊢;rcases h with h| ⟨rfl,h⟩
   ·rcases k with k| ⟨rfl,k⟩
    ·exact .inl (by omega)
    ·exact .inl h
   ·rcases k with k| ⟨rfl,k⟩
    ·exact .inl k
    ·exact .inr ⟨rfl,Xd a b c h k⟩
structure Wr where
 key:ByteArray
 text:ByteArray
 gone:Bool
def ER(x:Wr):Bool:=decide (x.key.size<=16)&&decide (x.text.size<=40)&&(!x.gone|| decide (x.text.size=0))
def Afi(x:Wr)(key:ByteArray):Bool:=Op.bytesLess x.key.toList key.toList
def UpS(s:List Wr):Prop:=s.Pairwise fun a b=>Afi a b.key=true
theorem UpS.lt{s:List Wr}(h:UpS s){i j:Nat}(hi:i<s.length)(hj:j<s.length)(hij:i<j):Afi s[i] s[j].key=true:=by
 unfold UpS at h;exact List.pairwise_iff_getElem.1 h i j hi hj hij
def yP(r:Rc):Value:= .agg #[.int .u64 (r.stamp.toNat:Int),.int .u64 (r.next.toNat:Int),.bool r.gone,.string r.text]
theorem Zv(s:ByteArray):(s.toList==[])=decide (s.size=0):=by
 rw [ByteArray.toList_eq];have h:s.size=s.data.toList.length:=rfl;cases hh:s.data.toList with
 | nil=>rw [h,hh];rfl
 | cons a l=>rw [h,hh];rfl
theorem Afj(r:Rc)(w:World)(hs:r.text.size<=4294967296):Calls Tryz.prog 165 #[yP r] w fun e w'=>e= .returned (.bool (Eg r))/\Below w.heap.size w w':=by
 obtain⟨st,nx,g,tx⟩:=r;simp only [yP];obtain⟨W,hW,hb,B⟩:=FB w 109 [.int .u64 (st.toNat:Int),.int .u64 (nx.toNat:Int),.bool g,.string tx];obtain⟨y0,y1,y2,y3,_,_,_,_⟩:=C9 B;have HB:=Aa hb;rw [hW]at y0 y1 y2 y3 HB;have e4:=Zv tx;have E4:=Aa e4;clear B hb hW e4;by_cases h1:st.toNat=0
 ·have t1:((st.toNat:Int)==0)=true:=by rw [h1];rfl
  have HV:Hid (Eg ⟨st,nx,g,tx⟩=false):=Aa (by simp [Eg,h1]);clear h1;go_enter Tryz.func165,Tryz.ntmps165
  go_wp2_with fail
  go_ret;exact⟨by rw [HV.out];rfl,HB.out⟩
 ·have t1:((st.toNat:Int)==0)=false:=by rw [beq_eq_false_iff_ne];omega
  have u1:(st.toNat==0)=false:=by rw [beq_eq_false_iff_ne];exact h1
  by_cases h2:40<tx.size
  ·have t2:decide ((40:Int)<(tx.size:Int))=true:=decide_eq_true (by omega);have HV:Hid (Eg ⟨st,nx,g,tx⟩=false):=Aa (by simp [Eg,u1];omega);clear h1 u1;go_enter Tryz.func165,Tryz.ntmps165
   go_wp2_with fail
   go_ret;exact⟨by rw [HV.out];rfl,HB.out⟩
  ·have t2:decide ((40:Int)<(tx.size:Int))=false:=decide_eq_false (by omega);cases g with
   | false=>
     have HV:Hid (Eg ⟨st,nx,false,tx⟩=true):=Aa (by simp [Eg,u1];omega);clear h1 u1;go_enter Tryz.func165,Tryz.ntmps165
     go_wp2_with fail
     go_ret;exact⟨by rw [HV.out];rfl,HB.out⟩
   | true=>
     have HV:Hid (Eg ⟨st,nx,true,tx⟩=(tx.toList==[])):=Aa (by rw [E4.out];simp [Eg,u1];omega);clear h1 u1;go_enter Tryz.func165,Tryz.ntmps165;cases t4:(tx.toList==[])
     all_goals(go_wp2_with fail)
     all_goals(go_ret)
     all_goals(exact⟨by rw [HV.out,t4];rfl,HB.out⟩)
theorem Aiy:∀n:Fin 41,bits BinOp.or .u64 3 ((n.val:Int)*65536)=((Ik n.val false:Nat):Int):=by decide+kernel
theorem Afk:bits BinOp.or .u64 (bits BinOp.or .u64 3 (((0:Nat):Int)*65536)) 256=((Ik 0 true:Nat):Int):=by decide+kernel
theorem Aiz(o b j:Nat)(ho:o<256^j)(hb:b<256)(hj:j<8):bits .or .u64 (o:Int) (IntKind.u64.wrap (IntKind.u64.wrap (b:Int)*2^(j*8)))=((o+b*256^j:Nat):Int):=by
 have h:=yA o b j hb hj;have e:(o:Int)%256^j=(o:Int):=by
  have e1:(o:Int)%256^j=((o%256^j:Nat):Int):=by rw [Int.natCast_emod,Int.natCast_pow];rfl
  rw [e1,FZ ho]
 rw [e,FZ ho,Nat.mul_comm 8 j]at h;exact h
def ML(r:Rc)(k:Nat):List Value:=([AA (Ik r.text.size r.gone),r.stamp,r.next]++textW (r.text.data.toList.take k)).map wv
theorem vN(r:Rc)(k:Nat)(hk:k<r.text.size)(v:Nat)(hv:v=(KI (r.text.data.toList.take k) (k/8)).toNat+r.text[k].toNat*256^(k%8)):(ML r k).set (3+k/8) (.int .u64 (v:Int))=ML r (k+1):=by
 have hl:k<r.text.data.toList.length:=hk;have h1:=Y7 r.text.data.toList k hl;have e:r.text.data.toList[k]=r.text[k]:=rfl;rw [e,<-hv]at h1;unfold ML;rw [<-tN r.text.data.toList k hl (KI (r.text.data.toList.take (k+1)) (k/8)) (by rw [e,<-hv];exact h1),<-h1];rw [show Au IntKind.u64 ((KI (r.text.data.toList.take (k+1)) (k/8)).toNat:Int)=wv (KI (r.text.data.toList.take (k+1)) (k/8))from rfl,<-List.map_set,List.set_append_right _ _ (by simp)];congr 3;simp
def vO(r:Rc)(w:World)(e:Ending)(w':World):Prop:=
 Below w.heap.size w w'/\if Eg r=true then∃g,e= .returned (.tuple #[.slice (some ⟨g,0,none⟩) 8 8,.bool true])/\w'.ownsRow w.heap.size 28 1 (.slice (some ⟨g,0,none⟩) 8 8) 8 ((Dk r).map wv)
  else e= .returned (.tuple #[.slice none 0 0,.bool false])
theorem VJ(r:Rc)(w:World)(hs:r.text.size<=4294967296):Calls Tryz.prog 125 #[yP r] w (vO r w):=by
 obtain⟨W,hW,hb,B⟩:=FB w 109 [.int .u64 (r.stamp.toNat:Int),.int .u64 (r.next.toNat:Int),.bool r.gone,.string r.text];obtain⟨y0,y1,y2,y3,_,_,_,_⟩:=C9 B;have HB:=Aa hb;have HK:=Aa B;have HR:=Aa (Afj r W hs);unfold yP at HR⊢;have HW:=Aa hW;rw [hW]at y0 y1 y2 y3;clear B hb hW;have hmk:∀W:World,(Instr.makeSlice 91 (.int .i64 8) (.int .i64 8)).run Tryz.prog W= .ok (.slice (some ⟨W.heap.size,0,none⟩) 8 8) (W.alloc (.cells (madeCells (Au .u64 0).cells (8*1)) 28)):=fun W=>by
  obtain⟨i0,hi,hz0,hz1,hz2⟩:=info_parts Tryz.lQ;have:=run_make (P:=Tryz.prog) (w:=W) 91 28 i0 (.int .u64 0) Tryz.underlying91 hi hz0 .i64 .i64 8 8 (by omega) (by omega) (by rw [hz2];omega) (by omega);rw [hz1]at this;simpa using this
 have hzc:(madeCells (Au .u64 0).cells (8*1)).toList=(List.replicate 8 (0:UInt64)).map wv:=KP 8;obtain⟨zc,hz⟩:∃zc,madeCells (Au .u64 0).cells (8*1)=zc:=⟨_,rfl⟩;rw [hz]at hmk hzc;have HZ:=Aa hzc;clear hz hzc;cases hR:Eg r with
 | false=>
   have HV:=Aa hR;rw [hR]at HR;clear hR;go_enter Tryz.func125,Tryz.ntmps125
   go_wp2_with fail
   rw [<-HW.out];refine HR.out.mono ?_;rintro e w1⟨rfl,hb1⟩;have HB1:=Aa (HB.out.trans (hb1.mono HB.out.size));clear HR hb1
   go_wp2_with fail
   go_ret2;refine⟨HB1.out,?_⟩;rw [if_neg (by rw [HV.out];exact Bool.false_ne_true)];rfl
 | true=>
   have HV:=Aa hR;rw [hR]at HR;have h40:=((LQ r).1 hR).2.1;clear hR;go_enter Tryz.func125,Tryz.ntmps125
   go_wp2_with fail
   rw [<-HW.out];refine HR.out.mono ?_;rintro e w1⟨rfl,hb1⟩;have HB1:=Aa (HB.out.trans (hb1.mono HB.out.size));have B1:=HK.out.below hb1 HK.out.lt;obtain⟨z0,z1,z2,z3,_,_,_,_⟩:=C9 B1;have uX:=Aa B1;clear HR hb1 B1 y0 y1 y2 y3;obtain⟨W2,hW2⟩:∃W2,W2=w1.alloc (.cells zc 28):=⟨_,rfl⟩;have hm1:=hmk w1;rw [<-hW2]at hm1;obtain⟨g,hg⟩:∃g,g=w1.heap.size:=⟨_,rfl⟩;have hlt:=uX.out.lt;have hne:w.heap.size≠g:=by omega
   have B2:CG W2 g 28 [.int .u64 0,.int .u64 0,.int .u64 0,.int .u64 0,.int .u64 0,.int .u64 0,.int .u64 0,.int .u64 0]:=by
    have e:[Au .u64 0,.int .u64 0,.int .u64 0,.int .u64 0,.int .u64 0,.int .u64 0,.int .u64 0,.int .u64 0]=zc.toList:=by rw [HZ.out];rfl
    rw [e];unfold CG;rw [hW2,hg,Array.toArray_toList];exact heap_alloc_new _ _
   have K2:CG W2 w.heap.size 109 _:=(hW2▸heap_alloc_old _ _ uX.out.lt:W2.heap[w.heap.size]? =w1.heap[w.heap.size]?).trans uX.out;have hb2:Below g w1 W2:=by rw [hW2,hg];exact(Below.refl _ _).alloc (Ad _) _
   have HG:=Aa hg;rw [<-hg]at hm1;have HX0:Hid ((W2.heap.size:Nat)=W2.heap.size):=Aa rfl;clear hW2 hg hmk;have facts:∀(W:World)(xs:List Value),CG W g 28 xs->∀k,k<xs.length->(∃v,W.cell? ⟨g,k,none⟩=some v)/\W.frozen? ⟨g,k,none⟩=false:=fun W xs h k hk=>⟨⟨_,h.has hk⟩,h.frozen k⟩
   have HF:=Aa facts;clear facts;obtain⟨X,hX⟩:∃X,X=Au .u64 (bits BinOp.or .u64 3 ((r.text.size:Int)*65536)):=⟨_,rfl⟩;cases hgn:r.gone with
   | false=>
     have rY:=Aa hgn;have B3:=B2.AZ 0 X;have K3:=K2.far hne 0 X;have B4:=B3.AZ 1 (.int .u64 (r.stamp.toNat:Int));have K4:=K3.far hne 1 (.int .u64 (r.stamp.toNat:Int));have B5:=B4.AZ 2 (.int .u64 (r.next.toNat:Int));have K5:=K4.far hne 2 (.int .u64 (r.next.toNat:Int));have Jy:=Aa B5;have yQ:=Aa K5;obtain⟨⟨v2,c2⟩,f2⟩:=HF.out _ _ B2 0 (by simp);obtain⟨⟨v3,c3⟩,f3⟩:=HF.out _ _ B3 1 (by simp);obtain⟨⟨v4,c4⟩,f4⟩:=HF.out _ _ B4 2 (by simp);have a23:=K2.cell 3;have a32:=K3.cell 2;have a30:=K3.cell 0;have a41:=K4.cell 1;have a53:=K5.cell 3;simp only [Aj,Az,hgn]at a23 a32 a30 a41 a53;rw [hX]at a32 a30 a41 a53 c3 f3 c4 f4;clear B2 K2 B3 K3 B4 K4 B5 K5 hgn;have HR0:Hid (CG ((((W2.setCell ⟨g,0,none⟩ (Au .u64 (bits BinOp.or .u64 3 ((r.text.size:Int)*65536)))).setCell ⟨g,1,none⟩ (.int .u64 (r.stamp.toNat:Int))).setCell ⟨g,2,none⟩ (.int .u64 (r.next.toNat:Int)))) g 28 (ML r 0)):=Aa (by
      have h:=Jy.out;rw [hX]at h;unfold ML;rw [rY.out,Ahv,Y8];have e:bits BinOp.or .u64 3 ((r.text.size:Int)*65536)=((Ik r.text.size false:Nat):Int):=Aiy ⟨r.text.size,by omega⟩;have e2:=PK h40 false;simp only [Am,Aq,e]at h;simp only [CJ,Fz,BU,Gq,wv,e,e2,show(((0:UInt64).toNat:Nat):Int)=0 from rfl];exact h)
     have HB0:Hid (Below g w1 ((((W2.setCell ⟨g,0,none⟩ (Au .u64 (bits BinOp.or .u64 3 ((r.text.size:Int)*65536)))).setCell ⟨g,1,none⟩ (.int .u64 (r.stamp.toNat:Int))).setCell ⟨g,2,none⟩ (.int .u64 (r.next.toNat:Int))))):=Aa (((hb2.setCell (p:=⟨g,0,none⟩) (Ad _) _).setCell (p:=⟨g,1,none⟩) (Ad _) _).setCell (p:=⟨g,2,none⟩) (Ad _) _);clear hX Jy yQ HF HX0 HZ hb2
     go_wp2_with fail
     clear a23 a32 a30 a41 a53 c2 f2 c3 f3 c4 f4;generalize((((W2.setCell ⟨g,0,none⟩ (Au .u64 (bits BinOp.or .u64 3 ((r.text.size:Int)*65536)))).setCell ⟨g,1,none⟩ (.int .u64 (r.stamp.toNat:Int))).setCell ⟨g,2,none⟩ (.int .u64 (r.next.toNat:Int))))=W5 at*;generalize bits BinOp.or .u64 3 ((r.text.size:Int)*65536)=hd0 at*
     go_loopw [36](fun i wr=>∃k:Nat,k<=r.text.size/\i= .int .i64 (k:Nat)/\CG wr g 28 (ML r k)/\Below g w1 wr)(fun i _=>r.text.size- (intOf i).toNat)
     case atStart=>exact⟨0,Nat.zero_le _,rfl,HR0.out,HB0.out⟩
     case round=>
      obtain⟨k,hk,rfl,hrow,hbr⟩:=hrel;have nT:=Aa hrow;have Ob:=Aa hbr;clear hrow hbr;by_cases hlt2:k<r.text.size
      ·have hcell:=nT.out.cell (3+k/8);have hfz:=nT.out.frozen (3+k/8);have hget:(ML r k)[3+k/8]? =some (.int .u64 ((KI (r.text.data.toList.take k) (k/8)).toNat:Int)):=by
        unfold ML;rw [BZ,List.getElem?_append_right (by simp),show 3+k/8- [AA (Ik r.text.size r.gone),r.stamp,r.next].length=k/8 by simp,textW,BZ,List.getElem?_range (by omega)];rfl
       rw [hget]at hcell;have hx3:wr.cell? ⟨w.heap.size,3,none⟩=some (.string r.text):=by
        have:=(uX.out.below Ob.out (by have:=HG.out;omega:w.heap.size<g)).cell 3;simpa using this
       have hkk:k/8<=4:=by omega
       obtain⟨o,ho⟩:∃o,KI (r.text.data.toList.take k) (k/8)=o:=⟨_,rfl⟩;have HO:=Aa ho;rw [ho]at hcell;have Ai0:=Aa (Aiz o.toNat r.text[k].toNat (k%8) (by rw [<-ho];exact tK _ _) (r.text[k]).toNat_lt (by omega));have Ai1:Hid (CG ((wr.setCell ⟨g,3+k/8,none⟩ (.int .u64 ((o.toNat+r.text[k].toNat*256^(k%8):Nat):Int))).drew) g 28 (ML r (k+1))):=Aa (by
        have h:=(nT.out.AZ (3+k/8) (.int .u64 ((o.toNat+r.text[k].toNat*256^(k%8):Nat):Int))).drew;rw [vN r k hlt2 _ (by rw [ho])]at h;exact h)
       have HNb:Hid (Below g w1 ((wr.setCell ⟨g,3+k/8,none⟩ (.int .u64 ((o.toNat+r.text[k].toNat*256^(k%8):Nat):Int))).drew)):=Aa ((Ob.out.setCell (p:=⟨g,3+k/8,none⟩) (Ad _) _).drew);clear hget ho
       go_wp2_with fail
       go_region;rw [Ai0.out]
       go_wp2_with fail
       go_roundw
       case rel=>exact⟨k+1,by omega,by go_num,Ai1.out,HNb.out⟩
       case measure=>simp [intOf];omega
      ·have hkn:k=r.text.size:=by omega
       subst hkn;have HE:Hid (ML r r.text.size=(Dk r).map wv):=Aa (by
        unfold ML Dk;rw [FK (show r.text.data.toList.length<=r.text.size from Ad _)])
       go_wp2_with fail
       go_ret2;refine⟨HB1.out.trans (Ob.out.mono (by have:=HG.out;have:=HB1.out.size;omega)),?_⟩;rw [if_pos HV.out];have hO:=nT.out.own (B:=w.heap.size) (by have:=HG.out;have:=HB1.out.size;omega) (by rw [HE.out,BH,Jd];decide);rw [HE.out,BH,Jd]at hO;exact⟨g,rfl,hO⟩
   | true=>
     have rY:=Aa hgn;have hz0:r.text.size=0:=((LQ r).1 HV.out).2.2 hgn;have HZ0:=Aa hz0;clear hz0;obtain⟨Y,hY⟩:∃Y,Y=Au .u64 (bits BinOp.or .u64 (bits BinOp.or .u64 3 ((r.text.size:Int)*65536)) 256):=⟨_,rfl⟩;have B3:=B2.AZ 0 X;have K3:=K2.far hne 0 X;have B4:=B3.AZ 0 Y;have K4:=K3.far hne 0 Y;have B5:=B4.AZ 1 (.int .u64 (r.stamp.toNat:Int));have K5:=K4.far hne 1 (.int .u64 (r.stamp.toNat:Int));have B6:=B5.AZ 2 (.int .u64 (r.next.toNat:Int));have K6:=K5.far hne 2 (.int .u64 (r.next.toNat:Int));have KO:=Aa B6;have HK6:=Aa K6;obtain⟨⟨v2,c2⟩,f2⟩:=HF.out _ _ B2 0 (by simp);have c3:=B3.cell 0;have f3:=B3.frozen 0;obtain⟨⟨v4,c4⟩,f4⟩:=HF.out _ _ B4 1 (by simp);obtain⟨⟨v5,c5⟩,f5⟩:=HF.out _ _ B5 2 (by simp);have a23:=K2.cell 3;have a32:=K3.cell 2;have a40:=K4.cell 0;have a51:=K5.cell 1;have a63:=K6.cell 3;simp only [Aj,Az,Am,hgn]at a23 a32 a40 a51 a63 c3;rw [hX]at a32 c3 f3 a40 c4 f4 a51 c5 f5 a63;rw [hY]at a40 c4 f4 a51 c5 f5 a63;clear B2 K2 B3 K3 B4 K4 B5 K5 B6 K6 hgn;have HR0:Hid (CG (((((W2.setCell ⟨g,0,none⟩ (Au .u64 (bits BinOp.or .u64 3 ((r.text.size:Int)*65536)))).setCell ⟨g,0,none⟩ (Au .u64 (bits BinOp.or .u64 (bits BinOp.or .u64 3 ((r.text.size:Int)*65536)) 256))).setCell ⟨g,1,none⟩ (.int .u64 (r.stamp.toNat:Int))).setCell ⟨g,2,none⟩ (.int .u64 (r.next.toNat:Int)))) g 28 (ML r 0)):=Aa (by
      have h:=KO.out;rw [hX,hY]at h;unfold ML;rw [rY.out,Ahv,Y8];have e:bits BinOp.or .u64 (bits BinOp.or .u64 3 ((r.text.size:Int)*65536)) 256=((Ik r.text.size true:Nat):Int):=by rw [HZ0.out];exact Afk
      have e2:=PK h40 true;simp only [Am,Aq,e]at h;simp only [CJ,Fz,BU,Gq,wv,e,e2,show(((0:UInt64).toNat:Nat):Int)=0 from rfl];exact h)
     have HB0:Hid (Below g w1 (((((W2.setCell ⟨g,0,none⟩ (Au .u64 (bits BinOp.or .u64 3 ((r.text.size:Int)*65536)))).setCell ⟨g,0,none⟩ (Au .u64 (bits BinOp.or .u64 (bits BinOp.or .u64 3 ((r.text.size:Int)*65536)) 256))).setCell ⟨g,1,none⟩ (.int .u64 (r.stamp.toNat:Int))).setCell ⟨g,2,none⟩ (.int .u64 (r.next.toNat:Int))))):=Aa ((((hb2.setCell (p:=⟨g,0,none⟩) (Ad _) _).setCell (p:=⟨g,0,none⟩) (Ad _) _).setCell (p:=⟨g,1,none⟩) (Ad _) _).setCell (p:=⟨g,2,none⟩) (Ad _) _);clear hX hY KO HK6 HF HX0 HZ hb2
     go_wp2_with fail
     clear a23 a32 a40 a51 a63 c2 f2 c3 f3 c4 f4 c5 f5;generalize(((((W2.setCell ⟨g,0,none⟩ (Au .u64 (bits BinOp.or .u64 3 ((r.text.size:Int)*65536)))).setCell ⟨g,0,none⟩ (Au .u64 (bits BinOp.or .u64 (bits BinOp.or .u64 3 ((r.text.size:Int)*65536)) 256))).setCell ⟨g,1,none⟩ (.int .u64 (r.stamp.toNat:Int))).setCell ⟨g,2,none⟩ (.int .u64 (r.next.toNat:Int))))=W5 at*;generalize bits BinOp.or .u64 (bits BinOp.or .u64 3 ((r.text.size:Int)*65536)) 256=hd1 at*;generalize bits BinOp.or .u64 3 ((r.text.size:Int)*65536)=hd0 at*
     go_loopw [36](fun i wr=>∃k:Nat,k<=r.text.size/\i= .int .i64 (k:Nat)/\CG wr g 28 (ML r k)/\Below g w1 wr)(fun i _=>r.text.size- (intOf i).toNat)
     case atStart=>exact⟨0,Nat.zero_le _,rfl,HR0.out,HB0.out⟩
     case round=>
      obtain⟨k,hk,rfl,hrow,hbr⟩:=hrel;have nT:=Aa hrow;have Ob:=Aa hbr;clear hrow hbr;have hkn:k=r.text.size:=by have:=HZ0.out;omega
      subst hkn;have HE:Hid (ML r r.text.size=(Dk r).map wv):=Aa (by
       unfold ML Dk;rw [FK (show r.text.data.toList.length<=r.text.size from Ad _)])
      go_wp2_with fail
      go_ret2;refine⟨HB1.out.trans (Ob.out.mono (by have:=HG.out;have:=HB1.out.size;omega)),?_⟩;rw [if_pos HV.out];have hO:=nT.out.own (B:=w.heap.size) (by have:=HG.out;have:=HB1.out.size;omega) (by rw [HE.out,BH,Jd];decide);rw [HE.out,BH,Jd]at hO;exact⟨g,rfl,hO⟩
theorem Afl(a b:ByteArray):(a==b)=decide (a=b):=by
 cases a with| mk x=>cases b with| mk y=>
 have h:((⟨x⟩:ByteArray)==⟨y⟩)=(x==y):=rfl;rw [h,Bool.eq_iff_iff,beq_iff_eq,decide_eq_true_eq,ByteArray.mk.injEq]
section
variable{P:Program}{t kt et:TypeId}
end
section
variable{P:Program}{t kt et:TypeId}
end
