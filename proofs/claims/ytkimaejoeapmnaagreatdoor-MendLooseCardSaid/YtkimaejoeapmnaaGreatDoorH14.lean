import Derived.Test.YtkimaejoeapmnaaGreatDoorH13
set_option linter.defProp false
set_option maxHeartbeats 32000000
set_option maxRecDepth 100000
open Nat renaming le_trans->Bc,lt_of_lt_of_le->BQ,le_refl->Ad,mod_eq_of_lt->Gl
open Go.World renaming setCell->D8
open Array renaming size_modify->Pg,getElem?_modify->Ri,getElem?_eq_some_iff->AB
open Go.Value renaming ownBlock->Bd,int->Au,slice->Ac
open List renaming length_drop->AV,findIdx?_eq_some_iff_getElem->KW,getElem?_cons_succ->AA,getElem?_cons_zero->Am,getElem?_map->BZ,getElem?_eq_getElem->Af,length_append->AQ,mem_append->AL,mem_singleton->BD,length_cons->BB,getElem_of_mem->CB,pairwise_iff_getElem->Ku,getElem_set->KG,getElem_drop->Yd,length_take->Dw,mem_cons->CJ,take_zero->Ai9,set_cons_zero->Aj,set_cons_succ->Aq,cons_append->Cj,nil_append->EM,map_cons->Cb,map_nil->Gv,take_of_length_le->FM,length_map->BJ,mem_cons_self->Bh,mem_cons_of_mem->BH
open Go.Lib renaming hid->Aa
open UInt64 renaming ofNat->Aw
namespace Go.Proofs.YtkimaejoeapmnaaGreatDoor
open Go.RowKit
open Go.Proofs.Tryz
def Tryz.Agn:JS prog 208 214 (.agg #[.slice none 0 0,.int .u64 0,.slice none 0 0,.slice none 0 0,.int .i64 0,.int .u8 0,.int .i64 0]) 7 104:=⟨underlying208,by kernel_rfl,rfl⟩
def CX(e:TypeId)(w w':World):Prop:=w.heap.size<=w'.heap.size/\∀j,j<w.heap.size->(∃cs fz,w.heap[j]? =some (.cells cs e fz))\/w'.heap[j]? =w.heap[j]?
def CX.of_below{e:TypeId}{w w':World}(h:η w w'):CX e w w':=⟨h.size,λj hj=> .inr (h.block j hj)⟩
def CX.trans{e:TypeId}{a b c:World}(h:CX e a b)(k:CX e b c):CX e a c:=by
 refine⟨Bc h.1 k.1,λj hj=> ?_⟩;rcases h.2 j hj with h'| h'
 ·exact .inl h'
 ·rcases k.2 j (BQ hj h.1)with⟨cs,fz,k'⟩| k'
  ·exact .inl ⟨cs,fz,h'▸k'⟩
  ·exact .inr (k'.trans h')
def CX.AZ{e:TypeId}{w:World}{g:Nat}{xs:List Value}(h:CS w g e xs)(i:Nat)(u:Value):CX e w (w.setCell (Δ g i) u):=by
 refine⟨by simp [D8,Pg],λj hj=> ?_⟩;by_cases hjg:j=g
 ·exact .inl ⟨_,_,hjg▸h⟩
 ·exact .inr (by simp only [D8,Ri];rw [if_neg (λe=>hjg e.symm)])
def CX.kept{e:TypeId}{w w':World}{base k n:Nat}{v:Value}{xs:List Value}(h:w.ownsRow base e k v n xs)(hk:Kept w w' v.ownBlock):CX e w w':=by
 refine⟨hk.1,λj hj=> ?_⟩;by_cases hjv:some j=v.ownBlock
 ·rcases h.2 with⟨h1,_⟩| ⟨g,cap,cur,h1,_,h3,_⟩
  ·subst h1;simp [Bd]at hjv
  ·subst h1;simp [Bd]at hjv;subst hjv;exact .inl ⟨_,_,h3⟩
 ·exact .inr (hk.2 j hj hjv)
def CX.own{e f:TypeId}(hef:f≠e){w w':World}{base k n:Nat}{v:Value}{xs:List Value}(s:CX e w w')(h:w.ownsRow base f k v n xs):w'.ownsRow base f k v n xs:=by
 refine⟨h.1,?_⟩;rcases h.2 with h1| ⟨g,cap,cur,h1,h2,h3,h4⟩
 ·exact .inl h1
 ·refine .inr ⟨g,cap,cur,h1,h2,?_,h4⟩;rcases s.2 g (AB.1 h3).1 with⟨cs,fz,h'⟩| h'
  ·rw [h3]at h';injection h' with h';injection h' with _ h'';exact absurd h'' hef
  ·rw [h',h3]
def CX.nd{w w':World}{base:Nat}{v:Value}{x:Nd}(s:CX 214 w w')(h:XF w base v x):XF w' base v x:=by
 obtain⟨A1,c1,A2,c2,A3,c3,e,h1,h2,h3⟩:=h;exact⟨A1,c1,A2,c2,A3,c3,e,s.own U h1,s.own U h2,s.own U h3⟩
def XF.mono{w:World}{base base':Nat}{v:Value}{x:Nd}(h:XF w base v x)(hb:base'<=base):XF w base' v x:=by
 obtain⟨A1,c1,A2,c2,A3,c3,e,h1,h2,h3⟩:=h;exact⟨A1,c1,A2,c2,A3,c3,e,ES h1 hb,ES h2 hb,ES h3 hb⟩
def PlV(w:World)(base:Nat)(cs:List Value)(pl:Pl):Prop:=
 ∃a b c d,cs=[a,b,c,d,.int .i64 pl.off,.int .u8 (pl.label.toNat:Int),.int .i64 pl.word]/\XF w base (.agg #[a,b,c,d]) pl.nd
def WG(w:World)(base:Nat):List (List Value)->List Pl->Prop
 | [],[]=>True
 | c::cs,p::ps=>PlV w base c p/\WG w base cs ps
 | _,_=>False
def CX.pl{w w':World}{base:Nat}{cs:List Value}{p:Pl}(s:CX 214 w w')(h:PlV w base cs p):PlV w' base cs p:=by
 obtain⟨a,b,c,d,e,h⟩:=h;exact⟨a,b,c,d,e,s.nd h⟩
def CX.pls{w w':World}{base:Nat}(s:CX 214 w w'):∀(vs:List (List Value))(ps:List Pl),WG w base vs ps->WG w' base vs ps
 | [],[],_=>trivial
 | _::vs,_::ps,h=>⟨s.pl h.1,s.pls vs ps h.2⟩
 | [],_::_,h=>h.elim
 | _::_,[],h=>h.elim
def WG.app{w:World}{base:Nat}{c:List Value}{p:Pl}(hp:PlV w base c p):∀(vs:List (List Value))(ps:List Pl),WG w base vs ps->WG w base (vs++[c]) (ps++[p])
 | [],[],_=>⟨hp,trivial⟩
 | _::vs,_::ps,h=>⟨h.1,WG.app hp vs ps h.2⟩
 | [],_::_,h=>h.elim
 | _::_,[],h=>h.elim
def Oe(w:World)(base:Nat)(v:Value)(way:List Pl):Prop:=
 ∃vs,w.ownsRow base 214 7 v way.length (vs.flatten)/\WG w base vs way
def Oe.nil(w:World)(base:Nat):Oe w base (.slice none 0 0) []:=⟨[],World.ownsRow_nil _ _ _ _,trivial⟩
def Oe.app{w w':World}{base:Nat}{v':Value}{way:List Pl}{vs:List (List Value)}{c:List Value}{p:Pl}(h:WG w base vs way)(hp:PlV w base c p)(s:CX 214 w w')
 (ho:w'.ownsRow base 214 7 v' (way.length+1) (vs.flatten++c)):Oe w' base v' (way++[p]):=
 ⟨vs++[c],by simpa using ho,(s.pls vs way h).app (s.pl hp)⟩
def Qs(w:World)(base:Nat)(A:Option Addr)(l:List UInt8):Prop:=
 Bs w A l.length l/\∀g off,A=some (Δ g off)->base<=g/\∃cs fz,w.heap[g]? =some (.cells cs 5 fz)
def CX.rs{w w':World}{base:Nat}{A:Option Addr}{l:List UInt8}(s:CX 214 w w')(h:Qs w base A l):Qs w' base A l:=by
 have key:∀g off,A=some (Δ g off)->w'.heap[g]? =w.heap[g]? :=λg off e=>by
  obtain⟨_,cs,fz,hg⟩:=h.2 g off e;rcases s.2 g (AB.1 hg).1 with⟨cs',fz',h'⟩| h'
  ·rw [hg]at h';injection h' with h';injection h' with _ h'';exact absurd h'' U
  ·exact h'
 refine⟨⟨h.1.1,λhn=> ?_⟩,λg off e=> ?_⟩
 ·obtain⟨b,off,e,hb,hc⟩:=h.1.2 hn;exact⟨b,off,e,BQ hb s.1,λj hj=>(World.cell?_of_block (w:=w) (key b off e)).trans (hc j hj)⟩
 ·obtain⟨h1,cs,fz,hg⟩:=h.2 g off e;exact⟨h1,cs,fz,(key g off e).trans hg⟩
def Qs.JU{w:World}{base n c:Nat}{A:Option Addr}{l:List UInt8}(h:w.ownsRow base 5 1 (.slice A n c) n (l.map bv))(hn:n=l.length):Qs w base A l:=by
 subst hn;refine⟨(CP h).2,λg off e=> ?_⟩;rcases h.2 with⟨h1,_⟩| ⟨g',cap,cur,h1,h2,h3,_⟩
 ·simp only [Value.slice.injEq]at h1;rw [h1.1]at e;cases e
 ·simp only [Value.slice.injEq]at h1;rw [h1.1]at e;injection e with e;injection e with e1 e2;subst e1;exact⟨h2,_,_,h3⟩
def Qs.drop{w:World}{base g off:Nat}{l:List UInt8}(h:Qs w base (some (Δ g off)) l)(k:Nat)(hk:k<=l.length):Qs w base (some (Δ g (off+k))) (l.drop k):=by
 refine⟨⟨by simp,λhn=> ?_⟩,λg' off' e=> ?_⟩
 ·simp only [AV]at hn;obtain⟨b,off',e,hb,hc⟩:=h.1.2 O;injection e with e;injection e with e1 e2;subst e1 e2
  refine⟨_,_,rfl,hb,λj hj=> ?_⟩;simp only [AV]at hj;rw [Nat.add_assoc,hc (k+j) O,List.map_drop,List.getElem?_drop]
 ·injection e with e;injection e with e1 e2;subst e1
  exact h.2 _ _ rfl
def Qs.cut{w:World}{base b off c:Nat}{l:List UInt8}(h:Qs w base (some (Δ b off)) l)(k:Nat)(hk:k<=l.length)(hc:l.length<=c):Qs w base (if c=k then some (Δ b off) else some (Δ b (off+k))) (l.drop k):=by
 split
 ·refine⟨⟨by simp,λhn=> ?_⟩,h.2⟩;simp only [AV]at hn;omega
 ·exact h.drop k hk
def Kept.trans'{a b c:World}{r:Option Nat}(h:Kept a b r)(k:Kept b c r):Kept a c r:=
 ⟨Bc h.1 k.1,λj hj hr=>(k.2 j (BQ hj h.1) hr).trans (h.2 j hj hr)⟩
def Kept.of_below{a b:World}{r:Option Nat}(h:η a b):Kept a b r:=⟨h.size,λj hj _=>h.block j hj⟩
def Kept.AZ(w:World)(g i:Nat)(u:Value):Kept w (w.setCell (Δ g i) u) (some g):=
 ⟨by simp [D8,Pg],λj _ hr=>by simp only [D8,Ri];rw [if_neg (λe=>hr (by rw [e]))]⟩
def EU{w w':World}{base k n:Nat}{e:TypeId}{v:Value}{xs:List Value}{r:Option Nat}(h:w.ownsRow base e k v n xs)(hk:Kept w w' r)(hn:r≠v.ownBlock\/v.ownBlock=none):w'.ownsRow base e k v n xs:=by
 refine⟨h.1,?_⟩
 rcases h.2 with h1| ⟨g,cap,cur,h1,h2,h3,h4⟩
 ·exact .inl h1
 ·refine .inr ⟨g,cap,cur,h1,h2,?_,h4⟩
  subst h1
  rw [hk.2 g (AB.1 h3).1 (λe=>by rcases hn with hn| hn
                                 ·exact hn (by rw [<-e];rfl)
                                 ·simp [Bd]at hn)]
  exact h3
def lenOf:Value->Nat
 | .slice _ n _=>n
 | _=>0
def ql(s:St)(key:List UInt8)(w:World)(e:Ending)(w':World):Prop:=
 η w w'/\match FY s key with
  | none=>e= .returned (.tuple #[.slice none 0 0,.slice none 0 0,.int .i64 5])
  | some (way,rest)=>∃vw A c,e= .returned (.tuple #[vw,.slice A rest.length c,.int .i64 0])/\Oe w' w.heap.size vw way/\Qs w' w.heap.size A rest/\rest.length<=c
def ZY(l:List UInt8):(Dn l).length=2*l.length:=by
 induction l with
 | nil=>rfl
 | cons a t ih=>simp [Dn]at ih⊢;omega
def Ago(s:St)(_:Nat)(key:List UInt8)(w:World)(pb:Nat)(u7 u8 u10:Value)(wr:World):Prop:=
 ∃(f:Nat)(A:Option Addr)(c:Nat)(rest:List UInt8)(name:UInt64)(label:UInt8)(word:Int)(way:List Pl)(a0 a1 a2 a3 a4:Value),
  u7= .slice A rest.length c/\u8= .int .u64 (name.toNat:Int)/\Ez s f name rest label word way=FY s key/\rest.length<f/\rest.length<=c/\way.length+rest.length<=2*key.length/\
  CS wr pb 214 [a0,a1,a2,a3,a4,.int .u8 (label.toNat:Int),.int .i64 word]/\Oe wr w.heap.size u10 way/\(some pb≠u10.ownBlock)/\Qs wr w.heap.size A rest/\η w wr
def gK(l:List UInt64):(EY l).kids.length<=16/\(EY l).labels.length<=16:=by
 unfold EY;split
 ·unfold Afg Jf
  dsimp only
  split<;>simp [digits_length]<;>omega
 ·unfold vH;have:=Za ((l.drop 4).take 16);simp at this;simp [O0];omega
def FO{s:St}{name:UInt64}{nd:Nd}(h:Fb s name=some nd):nd.pre.length<=15/\nd.kids.length<=16/\nd.labels.length<=16:=by
 unfold Fb at h;split at h
 ·cases h
 ·split at h
  ·rename_i hd;injection h with h
   subst h;refine⟨?_,(gK _).1,(gK _).2⟩;unfold IX at hd;simp only [Bool.and_eq_true]at hd;exact((Bq _).1 hd.2.1).1
  ·cases h
def EI{w:World}{g:Nat}{e:TypeId}{a b c d k l m:Value}(h:CS w g e [a,b,c,d,k,l,m]):w.cell? (Φ g)=some a/\w.cell? (Δ g 1)=some b/\w.cell? (Δ g 2)=some c/\w.cell? (Δ g 3)=some d/\w.cell? (Δ g 4)=some k/\w.cell? (Δ g 5)=some l/\w.cell? (Δ g 6)=some m:=
 ⟨h.cell 0,h.cell 1,h.cell 2,h.cell 3,h.cell 4,h.cell 5,h.cell 6⟩
def wrap64(a:Int)(h1: -9223372036854775808<=a)(h2:a<9223372036854775808):IntKind.i64.wrap a=a:=by
 simp only [IntKind.wrap,IntKind.bits,IntKind.signed,Bool.true_and,decide_eq_true_eq,show(2:Int)^(64-1)=9223372036854775808 from rfl,show(2:Int)^64=18446744073709551616 from rfl];split<;>omega
def RS{len:Mode}{w:World}{x d p L:Nat}{s:St}{F:Nat->Prop}(h:Jd len w x d p L s F){name:UInt64}{nd:Nd}(hr:Fb s name=some nd):0<=Bj name/\Bj name<=65536:=by
 obtain⟨l0,l1,ok,FZ⟩:=h.L0;unfold Fb at hr;split at hr
 ·cases hr
 ·rename_i h0;obtain⟨i,a,hi,ho,hk,hf⟩:=V8 h0;rw [ho];have:=ok.fits;rw [FZ]at hi;rcases hk with k| k<;>rw [k]at hf⊢<;>omega
def Acp{nd:Nd}{lab:UInt8}{kid:UInt64}{number:Nat}(h:OL nd lab=some (kid,number)):Ym nd lab= .tuple #[.int .u64 (kid.toNat:Int),.int .i64 (number:Int),.bool true]:=by
 unfold OL J6 at h;unfold Ym;split at h
 ·rename_i i hi;rw [hi];split at h
  ·rename_i hr;injection h with h
   injection h with h1 h2
   subst h1 h2;simp only [hr,if_true];split<;>rfl
  ·cases h
 ·cases h
def Acr{nd:Nd}{lab:UInt8}(h:OL nd lab=none):Ym nd lab= .tuple #[.int .u64 0,.int .i64 0,.bool false]:=by
 unfold OL J6 at h;unfold Ym;split at h
 ·rename_i i hi;rw [hi];split at h
  ·cases h
  ·rename_i hr;simp only [hr];rfl
 ·rename_i hi;rw [hi]
def x9{nd:Nd}{lab:UInt8}{kid:UInt64}{number:Nat}(h:OL nd lab=some (kid,number))(hk:nd.labels.length<=16):number<=300:=by
 unfold OL J6 at h;have:=lab.toNat_lt;split at h
 ·rename_i i hi;have hil:=(KW.1 hi).1;split at h
  ·injection h with h
   injection h with h1 h2
   subst h2;split<;>omega
  ·cases h
 ·cases h
def Anq{w:World}{base n1 c1 n2 c2 n3 c3:Nat}{A1 A2 A3:Option Addr}{x:Nd}(h:XF w base (.agg #[.slice A1 n1 c1,.int .u64 (x.val.toNat:Int),.slice A2 n2 c2,.slice A3 n3 c3]) x)(b1:n1<=1000000)(b2:n2<=1000000)(b3:n3<=1000000)(label:UInt8):
 Calls prog 156 #[.agg #[.slice A1 n1 c1,.int .u64 (x.val.toNat:Int),.slice A2 n2 c2,.slice A3 n3 c3],.int .u8 (label.toNat:Int)] w λe w'=>e= .returned (Ym x label)/\η w w':=by
 obtain⟨_,_,_,_,_,_,e,p1,p2,p3⟩:=h;simp only [Value.agg.injEq]at e;simp at e;obtain⟨⟨rfl,rfl,rfl⟩,⟨rfl,rfl,rfl⟩,⟨rfl,rfl,rfl⟩⟩:=e;exact Afm _ _ _ _ _ _ _ _ _ x label w b1 b2 b3 (CP p1).2 (CP p2).2 (CP p3).2
section
variable{len:Mode}{w w':World}{x d p L:Nat}{s:St}{F:Nat->Prop}
def JY (h : Jd len w x d p L s F) (key : ByteArray) (hk : key.size <= 1000) : Calls prog 110 #[Az x, .string key] w (ql s key.data.toList w) := by
  have HX := Aa h
  have pO := Aa (Am9 key w O)
  have nz := Aa (λ(W : World) (hW : η w W) => ZW (HX.out.below hW))
  have HRd := Aa (λ(W : World) (hW : η w W) => JX (HX.out.below hW))
  have Ar4 := h.box.lt
  clear h
  go_enter func110, ntmps110
  go_wp2_with fail
  refine pO.out.mono ?_
  rintro e w1 ⟨v, rfl, ho, hb1⟩
  obtain ⟨A, c, rfl, hc, hr⟩ := CU ho
  have HO1 := Aa ho
  clear pO ho hr
  go_wp2_with fail
  refine (nz.out w1 hb1).mono ?_
  rintro e w2 ⟨rfl, hb2⟩
  have SY := Aa (own_below HO1.out hb2)
  have hb2' := τ hb1 hb2
  clear HO1 hb1 hb2 nz
  go_wp2_with fail
  obtain ⟨W0, hW0⟩ : ∃ W0, W0 = w2.alloc (.cells #[.slice none 0 0, .int .u64 0, .slice none 0 0, .slice none 0 0, .int .i64 0, .int .u8 0, .int .i64 72] 214) := ⟨_, rfl⟩
  have al : η w2 W0 := by rw [hW0]; exact (Below.refl _ _).alloc (Ad _) _
  have BP : CS W0 w2.heap.size 214 [.slice none 0 0, .int .u64 0, .slice none 0 0, .slice none 0 0, .int .i64 0, .int .u8 0, .int .i64 72] := by rw [hW0]; exact heap_alloc_new _ _
  have hb0 : η w W0 := τ hb2' al
  have hR0 := Qs.JU (own_below SY.out al) (by rw [ZY]; simp)
  rw [<- hW0]
  have hlen : (Dn key.data.toList).length = 2 * key.size := by rw [ZY]; simp
  have hpb := hb2'.size
  obtain ⟨pb, Ar5⟩ : ∃ pb, w2.heap.size = pb := ⟨_, rfl⟩
  rw [Ar5] at BP hpb ⊢
  have HAt : Hid (Ago s L key.data.toList w pb (.slice A (2 * key.size) c) (.int .u64 ((s.ws 9).toNat : Int)) (.slice none 0 0) W0) :=
    Aa ⟨2 * key.size + 1, A, c, Dn key.data.toList, s.ws 9, 0, 72, [], _, _, _, _, _, by rw [hlen], rfl, by simp [FY], O, O, by simp [hlen], BP, Oe.nil _ _, by simp [Bd], hR0, hb0⟩
  clear hW0 al BP hb0 hR0 SY hlen hc hb2' Ar5
  go_loopw [7, 8, 10] (λu7 u8 u10 wr => Ago s L key.data.toList w pb u7 u8 u10 wr) (λu7 _ _ _ => lenOf u7)
  case atStart => exact HAt.out
  case round =>
    clear HAt
    obtain ⟨f, A, c, rest, name, label, word, way, a0, a1, a2, a3, a4, rfl, rfl, hgo, hf, hcap, hlen, hB, JE, hne, hrs, hbw⟩ := hrel
    obtain ⟨f, rfl⟩ : ∃ f', f = f' + 1 := ⟨f - 1, O⟩
    have hpn := hB.lt
    have HB := Aa hB
    have Anr := Aa JE
    have HNe := Aa hne
    have HRs := Aa hrs
    have ZZ := Aa hgo
    have qj := Aa hbw
    have xA := Aa (And.intro hf (And.intro hcap hlen))
    clear hB JE hne hrs hgo hbw hf hcap hlen
    by_cases hz : name = 0
    · have HR : Hid (FY s key.data.toList = some (way, rest)) := Aa (by rw [<- ZZ.out, Ez, if_pos hz])
      have t0 : (((name.toNat : Nat) : Int) == 0) = true := by subst hz; rfl
      clear ZZ
      go_wp2_with fail
      refine bodyPost_ret (v := .tuple #[u10, .slice A rest.length c, .int .i64 0]) (by simp [results, results110, go_sem]) rfl ?_
      refine ⟨qj.out, ?_⟩
      rw [HR.out]
      exact ⟨_, A, c, rfl, Anr.out, HRs.out, xA.out.2.1⟩
    · have t0 : (((name.toNat : Nat) : Int) == 0) = false := by
        rw [beq_eq_false_iff_ne]; intro e; apply hz
        exact UInt64.toNat_inj.1 (by have : name.toNat = 0 := O
                                     rw [this]; rfl)
      have f4 := HB.out.frozen 4
      have z4 := HB.out.cell 4
      simp only [AA, Am] at z4
      have hwr : IntKind.i64.wrap (name.toNat : Int) = Bj name := rfl
      go_wp2_with fail
      have B1 := HB.out.AZ 4 (Au .i64 (Bj name))
      have s1 := CX.AZ HB.out 4 (Au .i64 (Bj name))
      have k1 := Kept.AZ wr pb 4 (Au .i64 (Bj name))
      have Ant := qj.out.setCell (p := ⟨pb, 4, none⟩) hpb (Au .i64 (Bj name))
      have hsz1 : w.heap.size <= wr.heap.size := qj.out.size
      generalize wr.setCell ⟨pb, 4, none⟩ (Au .i64 (Bj name)) = W1 at *
      have S1 := Aa s1
      replace B1 : CS W1 pb 214 [a0, a1, a2, a3, .int .i64 (Bj name), .int .u8 (label.toNat : Int), .int .i64 word] := B1
      have hsz2 : w.heap.size <= W1.heap.size := Bc hsz1 s1.1
      clear f4 z4 hwr s1
      refine (HRd.out W1 Ant name).mono ?_
      rintro e w3 ⟨hb3, hpost⟩
      have S3 := Aa (S1.out.trans (CX.of_below hb3))
      have K3 := Aa (k1.trans' (Kept.of_below hb3))
      clear k1
      have B3 := B1.ξ hb3
      have hbw3 := Ant.trans (hb3.mono hsz2)
      have hsz3 : w.heap.size <= w3.heap.size := Bc hsz2 hb3.size
      clear B1 Ant hb3 S1
      cases hrd : Fb s name with
      | none =>
        rw [hrd] at hpost
        dsimp only at hpost
        subst hpost
        have HR : Hid (FY s key.data.toList = none) := Aa (by rw [<- ZZ.out, Ez, if_neg hz, hrd])
        have f0 := B3.frozen 0
        have f1 := B3.frozen 1
        have f2 := B3.frozen 2
        have f3 := B3.frozen 3
        have z0 := B3.cell 0
        have z1 := B3.cell 1
        have z2 := B3.cell 2
        have z3 := B3.cell 3
        simp only [AA, Am] at z0 z1 z2 z3
        clear hrd ZZ
        go_wp2_with fail
        refine bodyPost_ret (v := .tuple #[.slice none 0 0, .slice none 0 0, .int .i64 5]) (by simp [results, results110, go_sem]) rfl ?_
        refine ⟨(((hbw3.setCell (p := ⟨pb, 0, none⟩) hpb _).setCell (p := ⟨pb, 1, none⟩) hpb _).setCell (p := ⟨pb, 2, none⟩) hpb _).setCell (p := ⟨pb, 3, none⟩) hpb _, ?_⟩
        rw [HR.out]
      | some nd =>
        rw [hrd] at hpost
        dsimp only at hpost
        obtain ⟨v, rfl, A1, c1, A2, c2, A3, c3, rfl, o1, o2, o3⟩ := hpost
        have HNd := Aa (show XF w3 w.heap.size (.agg #[.slice A1 nd.pre.length c1, .int .u64 (nd.val.toNat : Int), .slice A2 nd.labels.length c2, .slice A3 nd.kids.length c3]) nd from XF.mono ⟨A1, c1, A2, c2, A3, c3, rfl, o1, o2, o3⟩ hsz2)
        have Anu := Aa hrd
        clear hrd o1 o2 o3
        have f0 := B3.frozen 0
        have f1 := B3.frozen 1
        have f2 := B3.frozen 2
        have f3 := B3.frozen 3
        have z0 := B3.cell 0
        have z1 := B3.cell 1
        have z2 := B3.cell 2
        have z3 := B3.cell 3
        have z4 := B3.cell 4
        have z5 := B3.cell 5
        have z6 := B3.cell 6
        simp only [AA, Am] at z0 z1 z2 z3 z4 z5 z6
        obtain ⟨vs, hvo, hvp⟩ := Anr.out
        have B5 := (((B3.AZ 0 (Ac A1 nd.pre.length c1)).AZ 1 (Au .u64 (nd.val.toNat : Int))).AZ 2 (Ac A2 nd.labels.length c2)).AZ 3 (Ac A3 nd.kids.length c3)
        have dM := (((hbw3.setCell (p := ⟨pb, 0, none⟩) hpb (Ac A1 nd.pre.length c1)).setCell (p := ⟨pb, 1, none⟩) hpb (Au .u64 (nd.val.toNat : Int))).setCell (p := ⟨pb, 2, none⟩) hpb (Ac A2 nd.labels.length c2)).setCell (p := ⟨pb, 3, none⟩) hpb (Ac A3 nd.kids.length c3)
        have S5 := S3.out.trans ((((CX.AZ B3 0 (Ac A1 nd.pre.length c1)).trans (CX.AZ (B3.AZ 0 _) 1 (Au .u64 (nd.val.toNat : Int)))).trans (CX.AZ ((B3.AZ 0 _).AZ 1 _) 2 (Ac A2 nd.labels.length c2))).trans (CX.AZ (((B3.AZ 0 _).AZ 1 _).AZ 2 _) 3 (Ac A3 nd.kids.length c3)))
        have K5 := K3.out.trans' ((((Kept.AZ _ pb 0 (Ac A1 nd.pre.length c1)).trans' (Kept.AZ _ pb 1 (Au .u64 (nd.val.toNat : Int)))).trans' (Kept.AZ _ pb 2 (Ac A2 nd.labels.length c2))).trans' (Kept.AZ _ pb 3 (Ac A3 nd.kids.length c3)))
        have HV5 := Aa (EU hvo K5 (.inl HNe.out))
        have Anv := Aa (((((CX.AZ B3 0 (Ac A1 nd.pre.length c1)).trans (CX.AZ (B3.AZ 0 _) 1 (Au .u64 (nd.val.toNat : Int)))).trans (CX.AZ ((B3.AZ 0 _).AZ 1 _) 2 (Ac A2 nd.labels.length c2))).trans (CX.AZ (((B3.AZ 0 _).AZ 1 _).AZ 2 _) 3 (Ac A3 nd.kids.length c3))).nd HNd.out)
        have HS5 := Aa S5
        have Jz := Aa B5
        have Ar6 := Aa dM
        have HP5 := Aa (HS5.out.pls vs way hvp)
        have hw5 := dM.size
        have hmm : way.length <= 1000000 := by have := xA.out; simp at this; omega
        clear S5 K5 B5 dM hvo hvp
        go_wp2_with (at_builtin; refine Ep rfl (.tmp 42) (.tmp 44) 208 rfl Tryz.Agn ((((w3.setCell ⟨pb, 0, none⟩ (Ac A1 nd.pre.length c1)).setCell ⟨pb, 1, none⟩ (Au .u64 (nd.val.toNat : Int))).setCell ⟨pb, 2, none⟩ (Ac A2 nd.labels.length c2)).setCell ⟨pb, 3, none⟩ (Ac A3 nd.kids.length c3)) w.heap.size u10 way.length vs.flatten [Ac A1 nd.pre.length c1, Au .u64 (nd.val.toNat : Int), Ac A2 nd.labels.length c2, Ac A3 nd.kids.length c3, .int .i64 (Bj name), .int .u8 (label.toNat : Int), .int .i64 word] rfl HV5.out rfl w3.heap.size 1 rfl (by simp [D8, Pg]) rfl U (by simp [Value.oneCell']) hmm U hw5 ?_; intro g6 c6 w6 ZV O5 hK6 nC; have B6 := (hK6.2 pb Jz.out.lt HNe.out).trans Jz.out; obtain ⟨y0, y1, y2, y3, y4, y5, y6⟩ := EI B6)
        have s6 := CX.kept HV5.out hK6
        have Me : Hid (CS w6 pb 214 [.slice A1 nd.pre.length c1, .int .u64 (nd.val.toNat : Int), .slice A2 nd.labels.length c2, .slice A3 nd.kids.length c3, .int .i64 (Bj name), .int .u8 (label.toNat : Int), .int .i64 word]) := Aa B6
        have HW6 := Aa (Oe.app HP5.out (p := ⟨nd, Bj name, label, word⟩) ⟨_, _, _, _, rfl, Anv.out⟩ s6 ZV)
        have Anw := Aa ((HS5.out.trans s6).rs HRs.out)
        have Anx := Aa (s6.nd Anv.out)
        have Anz := Aa (Ar6.out.trans O5)
        have Ar7 : Hid (pb ≠ g6) := Aa (λe => by
          rcases nC with h6 | h6
          · exact HNe.out (by rw [h6, e])
          · have := Jz.out.lt; unfold Δ at this; omega)
        clear s6 B6 ZV O5 hK6 nC HV5 HP5 Anv HS5 Jz Ar6 Anr HRs HB HNe qj HNd S3 K3 B3 hbw3 f0 f1 f2 f3 z0 z1 z2 z3 z4 z5 z6 hw5
        obtain ⟨b1, b2, b3⟩ := FO Anu.out
        obtain ⟨kk, hkk⟩ : ∃ kk, kk = common nd.pre rest := ⟨_, rfl⟩
        have hrl : rest.length <= 4294967296 := by have := xA.out; simp at this; omega
        refine (Lt A1 A nd.pre.length rest.length c1 c nd.pre rest w6 O hrl (by obtain ⟨_, _, _, _, _, _, e, p1, _, _⟩ := Anx.out; simp only [Value.agg.injEq] at e; simp at e; obtain ⟨⟨rfl, rfl⟩, _⟩ := e; exact (CP p1).2) Anw.out.1).mono ?_
        rintro e w7 ⟨rfl, hd7⟩
        rw [<- hkk]
        have Agp := hd7.below w6.heap.size
        have s7 : CX 214 w6 w7 := CX.of_below Agp
        have B7 := Me.out.ξ Agp
        have HW7 : Hid (Oe w7 w.heap.size (.slice (some ⟨g6, 0, none⟩) (way.length + 1) c6) (way ++ [⟨nd, Bj name, label, word⟩])) := Aa (by
          obtain ⟨vs', q1, q2⟩ := HW6.out
          exact ⟨vs', EU q1 (Kept.of_below (r := none) Agp) (.inl (by simp [Bd])), s7.pls _ _ q2⟩)
        have Aj6 := Aa (s7.rs Anw.out)
        have Au4 := Aa (s7.nd Anx.out)
        have Agq := Aa (τ Anz.out Agp)
        have dK := Aa B7
        obtain ⟨y0, y1, y2, y3, y4, y5, y6⟩ := EI B7
        have Acs : Hid ((if kk < nd.pre.length \/ kk = rest.length then some (way ++ [⟨nd, Bj name, label, word⟩], rest) else
            match OL nd (rest.getD kk 0) with
            | none => some (way ++ [⟨nd, Bj name, label, word⟩], rest)
            | some (kid, number) => Ez s f kid (rest.drop (kk + 1)) (rest.getD kk 0) (Bj name + 8 * number) (way ++ [⟨nd, Bj name, label, word⟩])) = FY s key.data.toList) := Aa (by
          rw [<- ZZ.out, Ez, if_neg hz, Anu.out, hkk]
          rfl)
        have HKk := Aa hkk
        clear hd7 Agp s7 B7 HW6 Anw Anx Anz Me hkk ZZ
        by_cases hs : kk < nd.pre.length \/ kk = rest.length
        · have HR : Hid (FY s key.data.toList = some (way ++ [⟨nd, Bj name, label, word⟩], rest)) := Aa (by rw [<- Acs.out, if_pos hs])
          have fin : ql s key.data.toList w (.returned (.tuple #[.slice (some ⟨g6, 0, none⟩) (way.length + 1) c6, .slice A rest.length c, .int .i64 0])) w7 := by
            refine ⟨Agq.out, ?_⟩
            rw [HR.out]
            exact ⟨_, A, c, rfl, HW7.out, Aj6.out, xA.out.2.1⟩
          have HFin := Aa fin
          clear fin HR Acs
          by_cases hs1 : kk < nd.pre.length
          · have t1 : decide ((kk : Int) < (nd.pre.length : Int)) = true := decide_eq_true O
            have t1' : decide (kk < nd.pre.length) = true := decide_eq_true hs1
            clear hs hs1
            go_wp2_with fail
            refine bodyPost_ret (v := .tuple #[.slice (some ⟨g6, 0, none⟩) (way.length + 1) c6, .slice A rest.length c, .int .i64 0]) (by simp [results, results110, go_sem]) rfl HFin.out
          · have t1 : decide ((kk : Int) < (nd.pre.length : Int)) = false := decide_eq_false O
            have t1' : decide (kk < nd.pre.length) = false := decide_eq_false hs1
            have t2 : ((kk : Int) == (rest.length : Int)) = true := by rw [beq_iff_eq]; omega
            have t2' : (kk == rest.length) = true := by rw [beq_iff_eq]; omega
            clear hs hs1
            go_wp2_with fail
            refine bodyPost_ret (v := .tuple #[.slice (some ⟨g6, 0, none⟩) (way.length + 1) c6, .slice A rest.length c, .int .i64 0]) (by simp [results, results110, go_sem]) rfl HFin.out
        · have hs1 : ¬ kk < nd.pre.length := λe => hs (.inl e)
          have hs2 : kk ≠ rest.length := λe => hs (.inr e)
          have hkl : kk < rest.length := by have := Fq nd.pre rest; rw [<- HKk.out] at this; omega
          have Agr := Aa Acs.out
          rw [if_neg hs] at Agr
          have t1 : decide ((kk : Int) < (nd.pre.length : Int)) = false := decide_eq_false O
          have t1' : decide (kk < nd.pre.length) = false := decide_eq_false hs1
          have t2 : ((kk : Int) == (rest.length : Int)) = false := by rw [beq_eq_false_iff_ne]; omega
          have t2' : (kk == rest.length) = false := by rw [beq_eq_false_iff_ne]; exact hs2
          obtain ⟨b, off, rfl, hb, hcs⟩ := Aj6.out.1.2 O
          have hck : w7.cell? ⟨b, off + kk, none⟩ = some (.int .u8 ((rest.getD kk 0).toNat : Int)) := by
            rw [hcs kk hkl, BZ, Af hkl, List.getD_eq_getElem?_getD, Af hkl]; rfl
          generalize rest.getD kk 0 = lab at *
          clear hcs Acs hs hs1 hs2
          have Aj7 := Aa (λ(W : World) (hW : η w7 W) => Anq ((CX.of_below hW).nd Au4.out) O O O lab)
          have hx1 : (decide ((0 : Int) <= (kk : Int))) = true := decide_eq_true O
          have hx2 : (decide ((kk : Int) < (rest.length : Int))) = true := decide_eq_true O
          cases hkd : OL nd lab with
          | none =>
            have HV := Aa (Acr hkd)
            rw [HV.out] at Aj7
            have HR : Hid (FY s key.data.toList = some (way ++ [⟨nd, Bj name, label, word⟩], rest)) := Aa (by rw [<- Agr.out, hkd])
            clear hkd Agr
            go_wp2_with fail
            go_region_with (go_at_call 156; go_loud (refine (Aj7.out _ ((Dr.drew _).below _)).mono ?_; rintro e w8 ⟨rfl, hb8⟩))
            all_goals (have ae := ((Dr.drew w7).below w7.heap.size).trans hb8)
            all_goals (have s8 : CX 214 w7 w8 := CX.of_below ae)
            all_goals (have HW8 : Hid (Oe w8 w.heap.size (.slice (some ⟨g6, 0, none⟩) (way.length + 1) c6) (way ++ [⟨nd, Bj name, label, word⟩])) := Aa (by
              obtain ⟨vs', q1, q2⟩ := HW7.out
              exact ⟨vs', EU q1 (Kept.of_below (r := none) ae) (.inl (by simp [Bd])), s8.pls _ _ q2⟩))
            all_goals (have Aj8 := Aa (s8.rs Aj6.out))
            all_goals (have Aj9 := Aa (τ Agq.out ae))
            all_goals (clear ae s8 hb8)
            all_goals (go_wp2_with fail)
            all_goals (refine bodyPost_ret (v := .tuple #[.slice (some ⟨g6, 0, none⟩) (way.length + 1) c6, .slice (some ⟨b, off, none⟩) rest.length c, .int .i64 0]) (by simp [results, results110, go_sem]) rfl ?_)
            all_goals (refine ⟨Aj9.out, ?_⟩)
            all_goals (rw [HR.out])
            all_goals (exact ⟨_, _, c, rfl, HW8.out, Aj8.out, xA.out.2.1⟩)
          | some kn =>
            obtain ⟨kid, number⟩ := kn
            have HV := Aa (Acp hkd)
            rw [HV.out] at Aj7
            have hnum := x9 hkd b3
            have Au5 : Hid (Ez s f kid (rest.drop (kk + 1)) lab (Bj name + 8 * number) (way ++ [⟨nd, Bj name, label, word⟩]) = FY s key.data.toList) := Aa (by rw [<- Agr.out, hkd])
            have hw1 : IntKind.i64.wrap (8 * (number : Int)) = 8 * (number : Int) := wrap64 _ O O
            have hro := RS HX.out Anu.out
            have hw2 : IntKind.i64.wrap (Bj name + 8 * (number : Int)) = Bj name + 8 * (number : Int) := wrap64 _ O O
            have hw3 : IntKind.i64.wrap ((kk : Int) + 1) = (kk : Int) + 1 := wrap64 _ O (by have := xA.out; simp at this; omega)
            clear hro
            clear hkd Agr
            go_wp2_with fail
            go_region_with (go_at_call 156; go_loud (refine (Aj7.out _ ((Dr.drew _).below _)).mono ?_; rintro e w8 ⟨rfl, hb8⟩))
            all_goals (have ae := ((Dr.drew w7).below w7.heap.size).trans hb8)
            all_goals (have s8 : CX 214 w7 w8 := CX.of_below ae)
            all_goals (have HW8 : Hid (Oe w8 w.heap.size (.slice (some ⟨g6, 0, none⟩) (way.length + 1) c6) (way ++ [⟨nd, Bj name, label, word⟩])) := Aa (by
              obtain ⟨vs', q1, q2⟩ := HW7.out
              exact ⟨vs', EU q1 (Kept.of_below (r := none) ae) (.inl (by simp [Bd])), s8.pls _ _ q2⟩))
            all_goals (have Aj8 := Aa (s8.rs Aj6.out))
            all_goals (have Aj9 := Aa (τ Agq.out ae))
            all_goals (have cO := Aa (dK.out.ξ ae))
            all_goals (have Au6 := (ae.cell (p := ⟨b, off + kk, none⟩) hb).trans hck)
            all_goals (clear ae s8 hb8)
            all_goals (clear hck y0 y1 y2 y3 y4 y5 y6)
            all_goals (obtain ⟨y0, y1, y2, y3, y4, y5, y6⟩ := EI cO.out)
            all_goals (have f5 := cO.out.frozen 5)
            all_goals (have f6 := cO.out.frozen 6)
            all_goals (go_wp2_with fail)
            all_goals (go_region)
            all_goals (have B9 := (cO.out.AZ 5 (Au .u8 (lab.toNat : Int))).AZ 6 (Au .i64 (Bj name + 8 * (number : Int))))
            all_goals (have s9 := (CX.AZ cO.out 5 (Au .u8 (lab.toNat : Int))).trans (CX.AZ (cO.out.AZ 5 (Au .u8 (lab.toNat : Int))) 6 (Au .i64 (Bj name + 8 * (number : Int)))))
            all_goals (have k9 := (Kept.AZ w8 pb 5 (Au .u8 (lab.toNat : Int))).trans' (Kept.AZ _ pb 6 (Au .i64 (Bj name + 8 * (number : Int)))))
            all_goals (have Ar8 := (Aj9.out.setCell (p := ⟨pb, 5, none⟩) hpb (Au .u8 (lab.toNat : Int))).setCell (p := ⟨pb, 6, none⟩) hpb (Au .i64 (Bj name + 8 * (number : Int))))
            all_goals (have hd9 := (Dr.drew ((w8.setCell ⟨pb, 5, none⟩ (Au .u8 (lab.toNat : Int))).setCell ⟨pb, 6, none⟩ (Au .i64 (Bj name + 8 * (number : Int))))).below w.heap.size)
            all_goals (obtain ⟨W9, VW⟩ : ∃ W9, W9 = World.drew ((w8.setCell ⟨pb, 5, none⟩ (Au .u8 (lab.toNat : Int))).setCell ⟨pb, 6, none⟩ (Au .i64 (Bj name + 8 * (number : Int)))) := ⟨_, rfl⟩)
            all_goals (have HW9 : Hid (Oe W9 w.heap.size (.slice (some ⟨g6, 0, none⟩) (way.length + 1) c6) (way ++ [⟨nd, Bj name, label, word⟩])) := Aa (by
              obtain ⟨vs', q1, q2⟩ := HW8.out
              rw [VW]
              exact ⟨vs', EU q1 k9 (.inl (by simp [Bd, Ar7.out])), (s9.trans (CX.of_below ((Dr.drew _).below _))).pls _ _ q2⟩))
            all_goals (have Au7 : Hid (Qs W9 w.heap.size (some ⟨b, off, none⟩) rest) := Aa (by rw [VW]; exact s9.rs Aj8.out))
            all_goals (have Ar9 : Hid (η w W9) := Aa (by rw [VW]; exact Ar8.trans hd9))
            all_goals (have xB : Hid (CS W9 pb 214 [.slice A1 nd.pre.length c1, .int .u64 (nd.val.toNat : Int), .slice A2 nd.labels.length c2, .slice A3 nd.kids.length c3, .int .i64 (Bj name), .int .u8 (lab.toNat : Int), .int .i64 (Bj name + 8 * (number : Int))]) := Aa (by rw [VW]; exact B9))
            all_goals (rw [<- VW])
            all_goals (clear B9 s9 k9 Ar8 hd9 VW cO HW8 Aj8 Aj9 y0 y1 y2 y3 y4 y5 y6 f5 f6 Au6)
            all_goals (go_wp2_with fail)
            all_goals (go_quiet (fail))
            all_goals (have ⟨hLf, hLc, hLl⟩ := xA.out)
            all_goals (go_roundw)
            all_goals first
              | (case measure => (simp [lenOf]; omega))
              | (case rel =>
                 refine ⟨_, _, _, _, _, _, _, _, _, _, _, _, _, _, _, _, _, _, _, _, _, _, _, _, _, _, _, _, _, _, _, _, _, _, _, _, _, _, _, _, _, _, _, _, _, _, _, _, _, _, _, _, _, _, _, _, _, _, _, _, _, _, _, _, _, _, _, _, _, _, _, _, _, _, _, _, ?_, rfl⟩
                 refine ⟨f, (if c = kk + 1 then some ⟨b, off, none⟩ else some ⟨b, off + (kk + 1), none⟩), c - (kk + 1), rest.drop (kk + 1), kid, lab, Bj name + 8 * (number : Int), way ++ [⟨nd, Bj name, label, word⟩], _, _, _, _, _, (by rw [AV]), rfl, Au5.out, (by rw [AV]; omega), (by rw [AV]; omega), (by rw [AQ, AV]; simp only [List.length_singleton]; omega), xB.out, ?_, (by simp [Bd, Ar7.out]), Au7.out.cut (kk + 1) O hLc, ?_⟩
                 · first
                   | (have hww := HW9.out; rw [AQ]; exact hww)
                   | exact HW9.out
                   | (obtain ⟨vs', q1, q2⟩ := HW9.out; exact ⟨vs', q1, (CX.of_below ((Dr.one W9 _).below _)).pls _ _ q2⟩)
                 · first
                   | exact Ar9.out
                   | exact Ar9.out.trans ((Dr.one _ _).below _))
end
structure Acu(L:Nat)(pl:Pl):Prop where
 word:∃j:Nat,pl.word=((8*j:Nat):Int)/\j<8*L
 off:∃o:Nat,pl.off=((8*o:Nat):Int)/\o+8<=8*L
 right:C9 pl.nd=true
 kids:pl.nd.kids.length<=16
 labels:pl.nd.labels.length<=16
def kM{L:Nat}{s:St}(ok:dJ L s.sh)(FZ:s.tk.length=s.sh.BM){name:UInt64}{nd:Nd}(h:Fb s name=some nd):
 C9 nd=true/\∃o:Nat,Bj name=((8*o:Nat):Int)/\o+(if nd.kids.length<=4 then 8 else 32)<=8*L:=by
 unfold Fb at h;split at h
 ·cases h
 ·rename_i h0;obtain⟨i,a,hi,ho,hk,hf⟩:=V8 h0;split at h
  ·rename_i hd;injection h with h
   subst h;have hd':=hd;unfold IX at hd';simp only [Bool.and_eq_true,decide_eq_true_eq]at hd';have hl:=ER (EY (wordsAt s.ws ((Bj name).toNat/8) (8*Bf (D7 s (Bj name)))));rw [hd'.2.2]at hl;have hwl:(wordsAt s.ws ((Bj name).toNat/8) (8*Bf (D7 s (Bj name)))).length=8*Bf (D7 s (Bj name)):=by simp [wordsAt]
   rw [hwl]at hl;refine⟨hd'.2.1,(s.sh.data+1024*i+64*Bf (D7 s (Bj name))*a)/8,?_⟩;rw [<-hl];have h1:=ok.fits;have h2:=ok.data;rw [FZ]at hi;clear hl hwl hd' hd h0;generalize Bf (D7 s (Bj name))=m at*;generalize Bj name=off at*;subst ho;rcases hk with rfl| rfl<;>constructor<;>omega
  ·cases h
def An0{nd:Nd}{lab:UInt8}{kid:UInt64}{number:Nat}(h:OL nd lab=some (kid,number)):number<(if nd.kids.length<=4 then 8 else 32):=by
 unfold OL J6 at h;split at h
 ·rename_i i hi;obtain⟨hil,hq,_⟩:=KW.1 hi;split at h
  ·rename_i hr;obtain⟨_,_,hlk,hn,_⟩:=(Bq _).1 hr;have hlab:lab.toNat<16:=by
    have:=List.all_eq_true.1 hn _ (List.getElem_mem hil);simp only [beq_iff_eq]at hq;unfold DK at this;simp only [decide_eq_true_eq]at this;omega
   injection h with h
   injection h with h1 h2
   subst h2;split
   ·omega
   ·omega
  ·cases h
 ·cases h
def gQ{L:Nat}{s:St}(ok:dJ L s.sh)(FZ:s.tk.length=s.sh.BM):∀(f:Nat)(name:UInt64)(rest:List UInt8)(label:UInt8)(word:Int)(way dN:List Pl)(rest':List UInt8),
 (∃j:Nat,word=((8*j:Nat):Int)/\j<8*L)->(∀pl∈way,Acu L pl)->Ez s f name rest label word way=some (dN,rest')->(∀pl∈dN,Acu L pl)/\rest'.length<=rest.length
 | 0,name,rest,label,word,way,dN,rest',hw,hp,h=>by
   rw [Ez]at h;injection h with h
   injection h with h1 h2
   subst h1 h2;exact⟨hp,Ad _⟩
 | f+1,name,rest,label,word,way,dN,rest',hw,hp,h=>by
   rw [Ez]at h;split at h
   ·injection h with h
    injection h with h1 h2
    subst h1 h2;exact⟨hp,Ad _⟩
   ·split at h
    ·cases h
    ·rename_i nd hr;obtain⟨hR,o,ho,hfit⟩:=kM ok FZ hr;obtain⟨b1,b2,b3⟩:=FO hr;have hpl:∀pl∈way++[⟨nd,Bj name,label,word⟩],Acu L pl:=by
      intro pl hm;rcases AL.1 hm with hm| hm
      ·exact hp pl hm
      ·rw [BD]at hm;subst hm;exact⟨hw,⟨o,ho,by split at hfit<;>omega⟩,hR,b2,b3⟩
     split at h
     ·injection h with h
      injection h with h1 h2
      subst h1 h2;exact⟨hpl,Ad _⟩
     ·split at h
      ·injection h with h
       injection h with h1 h2
       subst h1 h2;exact⟨hpl,Ad _⟩
      ·rename_i kid number hkd;have hk:=An0 hkd;obtain⟨q1,q2⟩:=gQ ok FZ f kid _ _ _ _ dN rest' ⟨o+number,by rw [ho];omega,O⟩ hpl h;refine⟨q1,?_⟩;rw [AV]at q2;omega
def Tj{L:Nat}{s:St}(ok:dJ L s.sh)(l0:1<L)(FZ:s.tk.length=s.sh.BM){key:List UInt8}{way:List Pl}{rest:List UInt8}(h:FY s key=some (way,rest)):(∀pl∈way,Acu L pl)/\rest.length<=2*key.length:=by
 have:=gQ ok FZ _ _ _ _ _ _ _ _ ⟨9,rfl,O⟩ (by intro pl h;cases h) h;rw [ZY]at this;exact this
def RU:∀(a b:List UInt8),common a b=a.length->common a b=b.length->a=b:=by
 intro a b h1 h2;induction a generalizing b with
 | nil=>cases b with
   | nil=>rfl
   | cons y t=>simp [common]at h2
 | cons x t ih=>cases b with
   | nil=>simp [common]at h1
   | cons y t'=>
     simp only [common]at h1 h2;split at h1
     ·rename_i e;rw [if_pos e]at h2;simp only [BB]at h1 h2;rw [ih t' O O]
      simp_all
     ·simp at h1
def zv(k:Int):Value:= .int .i64 k
abbrev IxM(w:World)(x d p L:Nat)(q:Ms)(F:Nat->Prop):Prop:=Jd q.pw.mode w x d p L q.s F
structure Ou(w:World)(base jb x d p L:Nat)(j:Jm)(F:Nat->Prop)(v:Value):Prop where
 ix:IxM w x d p L j.s F
 box:CS w jb 219 [Az x,v]
 row:w.ownsRow base 3 1 v j.made.length (j.made.map zv)
 fj:¬F jb
 bj:base<=jb
 bx:x<base
 bt:0<base/\1<base
 mj:v.ownBlock≠some jb
 mF:∀b,v.ownBlock=some b->¬F b
 mb:∀o∈j.made, -9223372036854775808<=o/\o<=9223372036854775807
def Gf(w:World)(base jb x d p L:Nat)(j:Jm)(G:Nat->Prop):Prop:=∃F v,Ou w base jb x d p L j F v/\∀b,G b<->(F b\/b=jb\/v.ownBlock=some b)
section
variable{w w':World}{base jb x d p L:Nat}{j:Jm}{F G:Nat->Prop}{v:Value}
def Ou.xj(h:Ou w base jb x d p L j F v):x≠jb:=Ψ h.bj h.bx
def Ou.mlt(h:Ou w base jb x d p L j F v):∀b,v.ownBlock=some b->base<=b/\b<w.heap.size:=by
 intro b hb;rcases h.row.2 with⟨h1,_⟩| ⟨g,cap,cur,h1,h2,h3,_⟩
 ·subst h1;simp [Bd]at hb
 ·subst h1;simp only [Bd,Option.some.injEq]at hb;subst hb;exact⟨h2,(AB.1 h3).1⟩
def Ou.mx(h:Ou w base jb x d p L j F v):v.ownBlock≠some x:=λe=>Ψ ((h.mlt x e).1) h.bx
def Ou.below(h:Ou w base jb x d p L j F v)(k:η w w'):Ou w' base jb x d p L j F v:=
 ⟨h.ix.below k,h.box.ξ k,EU h.row (Kept.of_below (r:=some jb) k) (.inl (λe=>h.mj e.symm)),h.fj,h.bj,h.bx,h.bt,h.mj,h.mF,h.mb⟩
def Gf.below(h:Gf w base jb x d p L j G)(k:η w w'):Gf w' base jb x d p L j G:=by
 obtain⟨F,v,h,hG⟩:=h;exact⟨F,v,h.below k,hG⟩
def Gf.lt(h:Gf w base jb x d p L j G):∀b,G b->b<w.heap.size:=by
 obtain⟨F,v,h,hG⟩:=h;intro b hb;rcases(hG b).1 hb with h1| rfl| h1
 ·exact h.ix.sys.lt b h1
 ·exact h.box.lt
 ·exact(h.mlt b h1).2
def Ou.move(h:Ou w base jb x d p L j F v)(hG:∀b,G b<->(F b\/b=jb\/v.ownBlock=some b)){s':Ms}{F':Nat->Prop}(hs:QW w' d p L s' F')(m:AP F F' w w'):
 ∃G',Ou w' base jb x d p L {j with s:=s'} F' v/\(∀b,G' b<->(F' b\/b=jb\/v.ownBlock=some b))/\AP G G' w w':=by
 have hjl:=h.box.lt;refine⟨λb=>F' b\/b=jb\/v.ownBlock=some b,⟨h.ix.move hs m,h.box.touch m.touch h.fj,Ie h.row m.touch h.mF,λh'=>(m.own _ h').elim h.fj (λh''=>O),h.bj,h.bx,h.bt,h.mj,λb hb h'=>(m.own _ h').elim (h.mF b hb) (λh''=>Ω ((h.mlt b hb).2)),h.mb⟩,λ_=>Iff.rfl,m.touch.mono (λb hb=>(hG b).2 (.inl hb)),λb hb=> ?_⟩;rcases hb with h1| h1
 ·exact(m.own b h1).imp (λh2=>(hG b).2 (.inl h2)) id
 ·exact .inl ((hG b).2 (.inr h1))
def Ou.app(h:Ou w base jb x d p L j F v)(hG:∀b,G b<->(F b\/b=jb\/v.ownBlock=some b)){o:Int}(ho: -9223372036854775808<=o/\o<=9223372036854775807){g c:Nat}{w1:World}
 (hown:w1.ownsRow base 3 1 (.slice (some (Φ g)) (j.made.length+1) c) (j.made.length+1) (j.made.map zv++[zv o]))(hb:Below base w w1)(hk:Kept w w1 v.ownBlock)(hg:v.ownBlock=some g\/w.heap.size<=g):
 ∃G',Ou (w1.setCell (Δ jb 1) (.slice (some (Φ g)) (j.made.length+1) c)) base jb x d p L {j with made:=j.made++[o]} F (.slice (some (Φ g)) (j.made.length+1) c)/\
  (∀b,G' b<->(F b\/b=jb\/(Ac (some (Φ g)) (j.made.length+1) c).ownBlock=some b))/\AP G G' w (w1.setCell (Δ jb 1) (.slice (some (Φ g)) (j.made.length+1) c)):=by
 have hjl:=h.box.lt;have hxl:=h.ix.box.lt;have hgj:g≠jb:=by
  rintro rfl;rcases hg with e| e
  ·exact h.mj e
  ·omega
 have hgF:¬F g:=by
  intro hf;rcases hg with e| e
  ·exact h.mF g e hf
  ·have:=h.ix.sys.lt g hf;omega
 have t1:Touch (λb=>v.ownBlock=some b) w w1:=⟨hb.os,hb.tape,hb.output,hk.1,λb hb' hn=>hk.2 b hb' (λe=>hn e.symm)⟩;have t2:Touch (λb=>b=jb\/v.ownBlock=some b) w (w1.setCell (Δ jb 1) (.slice (some (Φ g)) (j.made.length+1) c)):=(t1.mono (λb=> .inr)).setCell (p:=Δ jb 1) (.inl (.inl rfl)) _;have htb:∀{b:Nat},b<base->¬(b=jb\/v.ownBlock=some b):=by
  intro b hb' e;rcases e with rfl| e
  ·have:=h.bj;omega
  ·have:=(h.mlt b e).1;omega
 have hs:QW (w1.setCell (Δ jb 1) (.slice (some (Φ g)) (j.made.length+1) c)) d p L j.s F:=h.ix.sys.keep t2 (λb hb' hn=>hn.elim (λe=>h.fj (e▸hb')) (λe=>h.mF b e hb')) (htb h.bt.1) (htb h.bt.2);have hB1:CS w1 jb 219 [Az x,v]:=(hk.2 jb hjl (λe=>h.mj e.symm)).trans h.box;refine⟨λb=>F b\/b=jb\/(Ac (some (Φ g)) (j.made.length+1) c).ownBlock=some b,⟨⟨hs,h.ix.box.touch t2 (λe=>e.elim h.xj h.mx),h.ix.out⟩,hB1.AZ 1 _,?_,h.fj,h.bj,h.bx,h.bt,by simp [Bd,hgj],?_,?_⟩,λ_=>Iff.rfl,?_⟩
 ·have:=EU hown (Kept.AZ w1 jb 1 (.slice (some (Φ g)) (j.made.length+1) c)) (.inl (by simp [Bd,Ne.symm hgj]));simpa using this
 ·intro b hb';simp only [Bd,Option.some.injEq]at hb';exact hb'▸hgF
 ·intro o' ho';rcases AL.1 ho' with h1| h1
  ·exact h.mb o' h1
  ·rw [BD]at h1;exact h1▸ho
 ·refine⟨t2.mono (λb hb'=>(hG b).2 (.inr hb')),λb hb'=> ?_⟩;rcases hb' with h1| h1| h1
  ·exact .inl ((hG b).2 (.inl h1))
  ·exact .inl ((hG b).2 (.inr (.inl h1)))
  ·simp only [Bd,Option.some.injEq]at h1;rcases hg with e| e
   ·exact .inl ((hG b).2 (.inr (.inr (h1▸e))))
   ·exact .inr (h1▸e)
def AP.out{G':Nat->Prop}(m:AP G G' w w'){b:Nat}(hb:b<w.heap.size)(h:¬G b):¬G' b:=λh'=>(m.own b h').elim h (λh''=>O)
end
structure It where
 k:ByteArray
 v:UInt64
def Ags(a b:It):Bool:=Op.bytesLess a.k.toList b.k.toList
def XG:∀(a b:List UInt8),Op.bytesLess a b=false->Op.bytesLess b a=true\/a=b
 | [],[],_=> .inr rfl
 | [],_::_,h=>by simp [Op.bytesLess]at h
 | _::_,[],_=> .inl rfl
 | x::a,y::b,h=>by
   simp only [Op.bytesLess,Bool.or_eq_false_iff,decide_eq_false_iff_not,Bool.and_eq_false_iff,beq_eq_false_iff_ne]at h;obtain⟨h1,h2⟩:=h;simp only [Op.bytesLess,Bool.or_eq_true,decide_eq_true_eq,Bool.and_eq_true,beq_iff_eq,List.cons.injEq];by_cases e:x=y
   ·subst e;have h3:=h2.resolve_left (λh=>h rfl);rcases XG a b h3 with h4| h4
    ·exact .inl (.inr ⟨rfl,h4⟩)
    ·exact .inr ⟨rfl,h4⟩
   ·refine .inl (.inl ?_);rw [UInt8.lt_iff_toNat_lt]at h1⊢;have:x.toNat≠y.toNat:=λh=>e (UInt8.toNat_inj.1 h)
    omega
def EL:∀(a:List UInt8),Op.bytesLess a a=false
 | []=>rfl
 | x::a=>by simp [Op.bytesLess,EL a]
def MN:∀(a b c:List UInt8),Op.bytesLess a b=true->Op.bytesLess b c=true->Op.bytesLess a c=true
 | _,[],_,h,_=>by simp [Op.bytesLess]at h
 | _,_::_,[],_,h=>by simp [Op.bytesLess]at h
 | [],_::_,_::_,_,_=>rfl
 | x::a,y::b,z::c,h,k=>by
   simp only [Op.bytesLess,Bool.or_eq_true,decide_eq_true_eq,Bool.and_eq_true,beq_iff_eq]at h k⊢;simp only [UInt8.lt_iff_toNat_lt]at h k⊢;rcases h with h| ⟨rfl,h⟩
   ·rcases k with k| ⟨rfl,k⟩
    ·exact .inl O
    ·exact .inl h
   ·rcases k with k| ⟨rfl,k⟩
    ·exact .inl k
    ·exact .inr ⟨rfl,MN a b c h k⟩
def Up(l:List It):Prop:=l.Pairwise λa b=>Ags a b=true
structure Wr where
 key:ByteArray
 text:ByteArray
 gone:Bool
def Dz(x:Wr):Bool:=decide (x.key.size<=16)&&decide (x.text.size<=40)&&(!x.gone|| decide (x.text.size=0))
def Gj(x:Wr)(key:ByteArray):Bool:=Op.bytesLess x.key.toList key.toList
def GN(s:List Wr)(key:ByteArray):Nat:=s.findIdx λx=> !Gj x key
def nD(s:List Wr)(key:ByteArray):Bool:=match s[GN s key]? with
 | some x=>x.key.toList==key.toList
 | none=>false
def af(s:List Wr):Prop:=s.Pairwise λa b=>Gj a b.key=true
def JZ(s:List Wr)(x:Wr):List Wr×Int:=
 if Dz x=false then(s,2)else if nD s x.key then(s.set (GN s x.key) x,0)else if 16<=s.length then(s,3)else
 (s.take (GN s x.key)++x::s.drop (GN s x.key),0)
def ag(s:List Wr)(key:ByteArray):GN s key<=s.length:=List.findIdx_le_length
def qm{s:List Wr}{key:ByteArray}{i:Nat}(hi:i<s.length)(h1:Gj s[i] key=false)(h2:∀j(h:j<s.length),j<i->Gj s[j] key=true):GN s key=i/\nD s key=(s[i].key.toList==key.toList):=by
 have h:GN s key=i:=by
  unfold GN;rw [List.findIdx_eq hi];exact⟨by rw [h1];rfl,λj hj=>by rw [h2 j O hj];rfl⟩
 refine⟨h,?_⟩;unfold nD;rw [h,Af hi]
def Agt{s:List Wr}{key:ByteArray}(h2:∀j(h:j<s.length),Gj s[j] key=true):GN s key=s.length/\nD s key=false:=by
 have h:GN s key=s.length:=by
  unfold GN;rw [List.findIdx_eq_length];intro x hx;obtain⟨j,hj,rfl⟩:=CB hx;rw [h2 j hj];rfl
 refine⟨h,?_⟩;unfold nD;rw [h,List.getElem?_eq_none (Ad _)]
def Agu{s:List Wr}{key:ByteArray}(h:nD s key=true):GN s key<s.length:=by
 unfold nD at h;cases hg:s[GN s key]? with
 | none=>rw [hg]at h;cases h
 | some x=>exact(List.getElem?_eq_some_iff.1 hg).1
def xC{s:List Wr}{key:ByteArray}(j:Nat)(h:j<s.length)(hj:j<GN s key):Gj s[j] key=true:=by
 unfold GN at hj;have:=List.not_of_lt_findIdx hj;simpa using this
def Acv{s:List Wr}{key:ByteArray}(h:GN s key<s.length):Gj s[GN s key] key=false:=by
 have h1:(!Gj s[GN s key] key)=true:=List.findIdx_getElem (xs:=s) (p:=λx=> !Gj x key) (w:=h);cases h2:Gj s[GN s key] key with
 | false=>rfl
 | true=>rw [h2]at h1;cases h1
def af.lt{s:List Wr}(h:af s){i j:Nat}(hi:i<s.length)(hj:j<s.length)(hij:i<j):Gj s[i] s[j].key=true:=by
 unfold af at h;exact Ku.1 h i j hi hj hij
def af.left{s:List Wr}(h:af s){key:ByteArray}{i:Nat}(hi:i<s.length)(h1:Gj s[i] key=true):∀j(hj:j<s.length),j<i+1->Gj s[j] key=true:=λj hj hji=>by
 by_cases e:j=i
 ·subst e;exact h1
 ·exact MN _ _ _ (h.lt hj hi O) h1
def af.right{s:List Wr}(h:af s){key:ByteArray}{i:Nat}(hi:i<s.length)(h1:Gj s[i] key=false):∀j(hj:j<s.length),i<=j->Gj s[j] key=false:=λj hj hij=>by
 by_cases e:j=i
 ·subst e;exact h1
 ·cases h2:Gj s[j] key with
  | false=>rfl
  | true=>rw [show Gj s[i] key=true from MN _ _ _ (h.lt hi hj O) h2]at h1;cases h1
def Aka{s:List Wr}(h:af s)(x:Wr):af (JZ s x).1:=by
 unfold JZ;split
 ·exact h
 ·split
  ·rename_i h1;have hlt:=Agu h1;have he:s[GN s x.key].key.toList=x.key.toList:=by
    unfold nD at h1;rw [Af hlt]at h1;exact eq_of_beq h1
   generalize GN s x.key=k at hlt he;unfold af;rw [Ku];intro i j hi hj hij;simp only [List.length_set]at hi hj;rw [KG,KG];have h0:=h.lt hi hj hij;split
   ·rename_i e1;subst e1;rw [if_neg O];unfold Gj at h0⊢;rw [<-he];exact h0
   ·split
    ·rename_i e1 e2;subst e2;unfold Gj at h0⊢;rw [<-he];exact h0
    ·exact h0
  ·split
   ·exact h
   ·rename_i h1 h2;have hi0:nD s x.key=false:=by simpa using h1
    obtain⟨k,hk⟩:∃k,GN s x.key=k:=⟨_,rfl⟩;have hle:=ag s x.key;have hl:∀j(h:j<s.length),j<k->Gj s[j] x.key=true:=λj h hj=>xC j h (hk▸hj)
    have hr:∀j(h:j<s.length),k<=j->Op.bytesLess x.key.toList s[j].key.toList=true:=λj hj hkj=>by
     have hlt:k<s.length:=O
     have h3:Gj s[k] x.key=false:=by
      have:=Acv (s:=s) (key:=x.key) O;simpa only [hk]using this
     have h4:(s[k].key.toList==x.key.toList)=false:=by
      have h5:nD s x.key=_:=(qm hlt h3 hl).2;rw [<-h5];exact hi0
     have h5:Op.bytesLess x.key.toList s[k].key.toList=true:=(XG _ _ h3).resolve_right (by rw [beq_eq_false_iff_ne]at h4;exact h4);by_cases e:j=k
     ·subst e;exact h5
     ·exact MN _ _ _ h5 (h.lt hlt hj O)
    rw [hk]at hle⊢;refine List.pairwise_append.2 ⟨List.Pairwise.sublist (List.take_sublist _ _) h,List.pairwise_cons.2 ⟨λb hb=> ?_,List.Pairwise.sublist (List.drop_sublist _ _) h⟩,λa ha b hb=> ?_⟩
    ·obtain⟨j,hj,rfl⟩:=CB hb;simp only [AV]at hj;rw [Yd];exact hr _ O O
    ·obtain⟨i,hi,rfl⟩:=CB ha;simp only [Dw]at hi;rw [List.getElem_take];rcases CJ.1 hb with rfl| hb
     ·exact hl i O O
     ·obtain⟨j,hj,rfl⟩:=CB hb;simp only [AV]at hj;rw [Yd];exact h.lt O O O
def Agv(s:List Wr)(x:Wr):(JZ s x).1.length<=max s.length 16:=by
 unfold JZ;split
 ·simp;omega
 ·split
  ·simp;omega
  ·split
   ·simp;omega
   ·have:=ag s x.key;simp only [AQ,Dw,BB,AV];omega
def xE{s:List Wr}(h:∀y∈s,Dz y=true)(x:Wr):∀y∈(JZ s x).1,Dz y=true:=by
 unfold JZ;split
 ·exact h
 ·rename_i h0;have hx:Dz x=true:=by simpa using h0
  split
  ·intro y hy;rcases List.mem_or_eq_of_mem_set hy with h1| h1
   ·exact h y h1
   ·rw [h1];exact hx
  ·split
   ·exact h
   ·intro y hy;rcases AL.1 hy with h1| h1
    ·exact h y (List.mem_of_mem_take h1)
    ·rcases CJ.1 h1 with h1| h1
     ·rw [h1];exact hx
     ·exact h y (List.mem_of_mem_drop h1)
def rcV(r:Rc):Value:= .agg #[.int .u64 (r.stamp.toNat:Int),.int .u64 (r.next.toNat:Int),.bool r.gone,.string r.text]
def ai(s:ByteArray):(s.toList==[])=decide (s.size=0):=by
 rw [ByteArray.toList_eq];have h:s.size=s.data.toList.length:=rfl;cases hh:s.data.toList with
 | nil=>rw [h,hh];rfl
 | cons a l=>rw [h,hh];rfl
def Agw(r:Rc)(w:World)(hs:r.text.size<=4294967296):Calls prog 165 #[rcV r] w λe w'=>e= .returned (.bool (Eb r))/\η w w':=by
 obtain⟨st,nx,g,tx⟩:=r;simp only [rcV];obtain⟨W,hW,hb,B⟩:=EZ w 109 [.int .u64 (st.toNat:Int),.int .u64 (nx.toNat:Int),.bool g,.string tx];obtain⟨y0,y1,y2,y3,_,_,_,_⟩:=CG B;have HB:=Aa hb;rw [hW]at y0 y1 y2 y3 HB;have e4:=ai tx;have E4:=Aa e4;clear B hb hW e4;by_cases h1:st.toNat=0
 ·have t1:((st.toNat:Int)==0)=true:=by rw [h1];rfl
  have HV:Hid (Eb ⟨st,nx,g,tx⟩=false):=Aa (by simp [Eb,h1]);clear h1;go_enter func165,ntmps165
  go_wp2_with fail
  go_ret;exact⟨by rw [HV.out];rfl,HB.out⟩
 ·have t1:((st.toNat:Int)==0)=false:=by rw [beq_eq_false_iff_ne];omega
  have u1:(st.toNat==0)=false:=by rw [beq_eq_false_iff_ne];exact h1
  by_cases h2:40<tx.size
  ·have t2:decide ((40:Int)<(tx.size:Int))=true:=decide_eq_true O;have HV:Hid (Eb ⟨st,nx,g,tx⟩=false):=Aa (by simp [Eb,u1];omega);clear h1 u1;go_enter func165,ntmps165
   go_wp2_with fail
   go_ret;exact⟨by rw [HV.out];rfl,HB.out⟩
  ·have t2:decide ((40:Int)<(tx.size:Int))=false:=decide_eq_false O;cases g with
   | false=>
     have HV:Hid (Eb ⟨st,nx,false,tx⟩=true):=Aa (by simp [Eb,u1];omega);clear h1 u1;go_enter func165,ntmps165
     go_wp2_with fail
     go_ret;exact⟨by rw [HV.out];rfl,HB.out⟩
   | true=>
     have HV:Hid (Eb ⟨st,nx,true,tx⟩=(tx.toList==[])):=Aa (by rw [E4.out];simp [Eb,u1];omega);clear h1 u1;go_enter func165,ntmps165;cases t4:(tx.toList==[])
     all_goals(go_wp2_with fail)
     all_goals(go_ret)
     all_goals(exact⟨by rw [HV.out,t4];rfl,HB.out⟩)
def Akb:∀n:Fin 41,bits BinOp.or .u64 3 ((n.val:Int)*65536)=((Iu n.val false:Nat):Int):=by decide+kernel
def Agx:bits BinOp.or .u64 (bits BinOp.or .u64 3 (((0:Nat):Int)*65536)) 256=((Iu 0 true:Nat):Int):=by decide+kernel
def Akc(o b j:Nat)(ho:o<256^j)(hb:b<256)(hj:j<8):bits .or .u64 (o:Int) (IntKind.u64.wrap (IntKind.u64.wrap (b:Int)*2^(j*8)))=((o+b*256^j:Nat):Int):=by
 have h:=zO o b j hb hj;have e:(o:Int)%256^j=(o:Int):=by
  have e1:(o:Int)%256^j=((o%256^j:Nat):Int):=by rw [Int.natCast_emod,Int.natCast_pow];rfl
  rw [e1,Gl ho]
 rw [e,Gl ho,Nat.mul_comm 8 j]at h;exact h
def Ns(r:Rc)(k:Nat):List Value:=([Aw (Iu r.text.size r.gone),r.stamp,r.next]++textW (r.text.data.toList.take k)).map wv
def xG(r:Rc)(k:Nat)(hk:k<r.text.size)(v:Nat)(hv:v=(Lc (r.text.data.toList.take k) (k/8)).toNat+r.text[k].toNat*256^(k%8)):(Ns r k).set (3+k/8) (.int .u64 (v:Int))=Ns r (k+1):=by
 have hl:k<r.text.data.toList.length:=hk;have h1:=Zg r.text.data.toList k hl;have e:r.text.data.toList[k]=r.text[k]:=rfl;rw [e,<-hv]at h1;unfold Ns;rw [<-vM r.text.data.toList k hl (Lc (r.text.data.toList.take (k+1)) (k/8)) (by rw [e,<-hv];exact h1),<-h1];rw [show Au IntKind.u64 ((Lc (r.text.data.toList.take (k+1)) (k/8)).toNat:Int)=wv (Lc (r.text.data.toList.take (k+1)) (k/8))from rfl,<-List.map_set,List.set_append_right _ _ Θ];congr 3;simp
def xH(r:Rc)(w:World)(e:Ending)(w':World):Prop:=
 η w w'/\if Eb r=true then∃g,e= .returned (.tuple #[.slice (some (Φ g)) 8 8,.bool true])/\w'.ownsRow w.heap.size 28 1 (.slice (some (Φ g)) 8 8) 8 ((Dj r).map wv)
  else e= .returned (.tuple #[.slice none 0 0,.bool false])
def WH(r:Rc)(w:World)(hs:r.text.size<=4294967296):Calls prog 125 #[rcV r] w (xH r w):=by
 obtain⟨W,hW,hb,B⟩:=EZ w 109 [.int .u64 (r.stamp.toNat:Int),.int .u64 (r.next.toNat:Int),.bool r.gone,.string r.text];obtain⟨y0,y1,y2,y3,_,_,_,_⟩:=CG B;have HB:=Aa hb;have HK:=Aa B;have HR:=Aa (Agw r W hs);unfold rcV at HR⊢;have HW:=Aa hW;rw [hW]at y0 y1 y2 y3;clear B hb hW;have hmk:∀W:World,(Instr.makeSlice 91 (.int .i64 8) (.int .i64 8)).run prog W= .ok (.slice (some (Φ W.heap.size)) 8 8) (W.alloc (.cells (madeCells (Au .u64 0).cells (8*1)) 28)):=λW=>by
  obtain⟨i0,hi,hz0,hz1,hz2⟩:=info_parts Tryz.oG;have:=run_make (P:=prog) (w:=W) 91 28 i0 (.int .u64 0) underlying91 hi hz0 .i64 .i64 8 8 O O (by rw [hz2];omega) O;rw [hz1]at this;simpa using this
 have hzc:(madeCells (Au .u64 0).cells (8*1)).toList=(List.replicate 8 (0:UInt64)).map wv:=Lj 8;obtain⟨zc,hz⟩:∃zc,madeCells (Au .u64 0).cells (8*1)=zc:=⟨_,rfl⟩;rw [hz]at hmk hzc;have HZ:=Aa hzc;clear hz hzc;cases hR:Eb r with
 | false=>
   have HV:=Aa hR;rw [hR]at HR;clear hR;go_enter func125,ntmps125
   go_wp2_with fail
   rw [<-HW.out];refine HR.out.mono ?_;rintro e w1⟨rfl,hb1⟩;have HB1:=Aa (τ HB.out hb1);clear HR hb1
   go_wp2_with fail
   go_ret2;refine⟨HB1.out,?_⟩;rw [if_neg (by rw [HV.out];exact Bool.false_ne_true)];rfl
 | true=>
   have HV:=Aa hR;rw [hR]at HR;have h40:=((Ky r).1 hR).2.1;clear hR;go_enter func125,ntmps125
   go_wp2_with fail
   rw [<-HW.out];refine HR.out.mono ?_;rintro e w1⟨rfl,hb1⟩;have HB1:=Aa (τ HB.out hb1);have B1:=HK.out.ξ hb1;obtain⟨z0,z1,z2,z3,_,_,_,_⟩:=CG B1;have wY:=Aa B1;clear HR hb1 B1 y0 y1 y2 y3;obtain⟨W2,hW2⟩:∃W2,W2=w1.alloc (.cells zc 28):=⟨_,rfl⟩;have hm1:=hmk w1;rw [<-hW2]at hm1;obtain⟨g,hg⟩:∃g,g=w1.heap.size:=⟨_,rfl⟩;have hlt:=wY.out.lt;have hne:w.heap.size≠g:=O
   have B2:CS W2 g 28 [.int .u64 0,.int .u64 0,.int .u64 0,.int .u64 0,.int .u64 0,.int .u64 0,.int .u64 0,.int .u64 0]:=by
    have e:[Au .u64 0,.int .u64 0,.int .u64 0,.int .u64 0,.int .u64 0,.int .u64 0,.int .u64 0,.int .u64 0]=zc.toList:=by rw [HZ.out];rfl
    rw [e];unfold CS;rw [hW2,hg,Array.toArray_toList];exact heap_alloc_new _ _
   have K2:CS W2 w.heap.size 109 _:=(hW2▸χ _ _ wY.out.lt:W2.heap[w.heap.size]? =w1.heap[w.heap.size]?).trans wY.out;have hb2:Below g w1 W2:=by rw [hW2,hg];exact(Below.refl _ _).alloc (Ad _) _
   have HG:=Aa hg;rw [<-hg]at hm1;have HX0:Hid ((W2.heap.size:Nat)=W2.heap.size):=Aa rfl;clear hW2 hg hmk;have facts:∀(W:World)(xs:List Value),CS W g 28 xs->∀k,k<xs.length->(∃v,W.cell? (Δ g k)=some v)/\W.frozen? (Δ g k)=false:=λW xs h k hk=>⟨⟨_,h.has hk⟩,h.frozen k⟩
   have HF:=Aa facts;clear facts;obtain⟨X,hX⟩:∃X,X=Au .u64 (bits BinOp.or .u64 3 ((r.text.size:Int)*65536)):=⟨_,rfl⟩;cases hgn:r.gone with
   | false=>
     have uO:=Aa hgn;have B3:=B2.AZ 0 X;have K3:=K2.far hne 0 X;have B4:=B3.AZ 1 (.int .u64 (r.stamp.toNat:Int));have K4:=K3.far hne 1 (.int .u64 (r.stamp.toNat:Int));have B5:=B4.AZ 2 (.int .u64 (r.next.toNat:Int));have K5:=K4.far hne 2 (.int .u64 (r.next.toNat:Int));have Jz:=Aa B5;have HK5:=Aa K5;obtain⟨⟨v2,c2⟩,f2⟩:=HF.out _ _ B2 0 Θ;obtain⟨⟨v3,c3⟩,f3⟩:=HF.out _ _ B3 1 Θ;obtain⟨⟨v4,c4⟩,f4⟩:=HF.out _ _ B4 2 Θ;have a23:=K2.cell 3;have a32:=K3.cell 2;have a30:=K3.cell 0;have a41:=K4.cell 1;have a53:=K5.cell 3;simp only [Am,AA,hgn]at a23 a32 a30 a41 a53;rw [hX]at a32 a30 a41 a53 c3 f3 c4 f4;clear B2 K2 B3 K3 B4 K4 B5 K5 hgn;have HR0:Hid (CS ((((W2.setCell (Φ g) (Au .u64 (bits BinOp.or .u64 3 ((r.text.size:Int)*65536)))).setCell (Δ g 1) (.int .u64 (r.stamp.toNat:Int))).setCell (Δ g 2) (.int .u64 (r.next.toNat:Int)))) g 28 (Ns r 0)):=Aa (by
      have h:=Jz.out;rw [hX]at h;unfold Ns;rw [uO.out,Ai9,Zh];have e:bits BinOp.or .u64 3 ((r.text.size:Int)*65536)=((Iu r.text.size false:Nat):Int):=Akb ⟨r.text.size,O⟩;have e2:=Qc h40 false;simp only [Aj,Aq,e]at h;simp only [Cj,EM,Cb,Gv,wv,e,e2,show(((0:UInt64).toNat:Nat):Int)=0 from rfl];exact h)
     have HB0:Hid (Below g w1 ((((W2.setCell (Φ g) (Au .u64 (bits BinOp.or .u64 3 ((r.text.size:Int)*65536)))).setCell (Δ g 1) (.int .u64 (r.stamp.toNat:Int))).setCell (Δ g 2) (.int .u64 (r.next.toNat:Int))))):=Aa (((hb2.setCell (p:=Φ g) (Ad _) _).setCell (p:=Δ g 1) (Ad _) _).setCell (p:=Δ g 2) (Ad _) _);clear hX Jz HK5 HF HX0 HZ hb2
     go_wp2_with fail
     clear a23 a32 a30 a41 a53 c2 f2 c3 f3 c4 f4;generalize((((W2.setCell (Φ g) (Au .u64 (bits BinOp.or .u64 3 ((r.text.size:Int)*65536)))).setCell (Δ g 1) (.int .u64 (r.stamp.toNat:Int))).setCell (Δ g 2) (.int .u64 (r.next.toNat:Int))))=W5 at*;generalize bits BinOp.or .u64 3 ((r.text.size:Int)*65536)=hd0 at*
     go_loopw [36](λi wr=>∃k:Nat,k<=r.text.size/\i= .int .i64 (k:Nat)/\CS wr g 28 (Ns r k)/\Below g w1 wr)(λi _=>r.text.size- (intOf i).toNat)
     case atStart=>exact⟨0,Nat.zero_le _,rfl,HR0.out,HB0.out⟩
     case round=>
      obtain⟨k,hk,rfl,hrow,hbr⟩:=hrel;have qi:=Aa hrow;have Nr:=Aa hbr;clear hrow hbr;by_cases hlt2:k<r.text.size
      ·have hcell:=qi.out.cell (3+k/8);have hfz:=qi.out.frozen (3+k/8);have hget:(Ns r k)[3+k/8]? =some (.int .u64 ((Lc (r.text.data.toList.take k) (k/8)).toNat:Int)):=by
        unfold Ns;rw [BZ,List.getElem?_append_right Θ,show 3+k/8- [Aw (Iu r.text.size r.gone),r.stamp,r.next].length=k/8 by simp,textW,BZ,List.getElem?_range O];rfl
       rw [hget]at hcell;have hx3:wr.cell? (Δ w.heap.size 3)=some (.string r.text):=by
        have:=(wY.out.below Nr.out (by have:=HG.out;omega:w.heap.size<g)).cell 3;simpa using this
       have hkk:k/8<=4:=O
       obtain⟨o,ho⟩:∃o,Lc (r.text.data.toList.take k) (k/8)=o:=⟨_,rfl⟩;have HO:=Aa ho;rw [ho]at hcell;have Akd:=Aa (Akc o.toNat r.text[k].toNat (k%8) (by rw [<-ho];exact vK _ _) (r.text[k]).toNat_lt O);have Ake:Hid (CS ((wr.setCell (Δ g (3+k/8)) (.int .u64 ((o.toNat+r.text[k].toNat*256^(k%8):Nat):Int))).drew) g 28 (Ns r (k+1))):=Aa (by
        have h:=(qi.out.AZ (3+k/8) (.int .u64 ((o.toNat+r.text[k].toNat*256^(k%8):Nat):Int))).drew;rw [xG r k hlt2 _ (by rw [ho])]at h;exact h)
       have HNb:Hid (Below g w1 ((wr.setCell (Δ g (3+k/8)) (.int .u64 ((o.toNat+r.text[k].toNat*256^(k%8):Nat):Int))).drew)):=Aa ((Nr.out.setCell (p:=Δ g (3+k/8)) (Ad _) _).drew);clear hget ho
       go_wp2_with fail
       go_region;rw [Akd.out]
       go_wp2_with fail
       go_roundw
       case rel=>exact⟨k+1,O,by go_num,Ake.out,HNb.out⟩
       case measure=>simp [intOf];omega
      ·have hkn:k=r.text.size:=O
       subst hkn;have HE:Hid (Ns r r.text.size=(Dj r).map wv):=Aa (by
        unfold Ns Dj;rw [FM (show r.text.data.toList.length<=r.text.size from Ad _)])
       go_wp2_with fail
       go_ret2;refine⟨HB1.out.trans (Nr.out.mono (Ψ HG.out HB1.out.size)),?_⟩;rw [if_pos HV.out];have hO:=qi.out.own (B:=w.heap.size) (Ψ HG.out HB1.out.size) (by rw [HE.out,BJ,Iw];decide);rw [HE.out,BJ,Iw]at hO;exact⟨g,rfl,hO⟩
   | true=>
     have uO:=Aa hgn;have hz0:r.text.size=0:=((Ky r).1 HV.out).2.2 hgn;have HZ0:=Aa hz0;clear hz0;obtain⟨Y,hY⟩:∃Y,Y=Au .u64 (bits BinOp.or .u64 (bits BinOp.or .u64 3 ((r.text.size:Int)*65536)) 256):=⟨_,rfl⟩;have B3:=B2.AZ 0 X;have K3:=K2.far hne 0 X;have B4:=B3.AZ 0 Y;have K4:=K3.far hne 0 Y;have B5:=B4.AZ 1 (.int .u64 (r.stamp.toNat:Int));have K5:=K4.far hne 1 (.int .u64 (r.stamp.toNat:Int));have B6:=B5.AZ 2 (.int .u64 (r.next.toNat:Int));have K6:=K5.far hne 2 (.int .u64 (r.next.toNat:Int));have Me:=Aa B6;have HK6:=Aa K6;obtain⟨⟨v2,c2⟩,f2⟩:=HF.out _ _ B2 0 Θ;have c3:=B3.cell 0;have f3:=B3.frozen 0;obtain⟨⟨v4,c4⟩,f4⟩:=HF.out _ _ B4 1 Θ;obtain⟨⟨v5,c5⟩,f5⟩:=HF.out _ _ B5 2 Θ;have a23:=K2.cell 3;have a32:=K3.cell 2;have a40:=K4.cell 0;have a51:=K5.cell 1;have a63:=K6.cell 3;simp only [Am,AA,Aj,hgn]at a23 a32 a40 a51 a63 c3;rw [hX]at a32 c3 f3 a40 c4 f4 a51 c5 f5 a63;rw [hY]at a40 c4 f4 a51 c5 f5 a63;clear B2 K2 B3 K3 B4 K4 B5 K5 B6 K6 hgn;have HR0:Hid (CS (((((W2.setCell (Φ g) (Au .u64 (bits BinOp.or .u64 3 ((r.text.size:Int)*65536)))).setCell (Φ g) (Au .u64 (bits BinOp.or .u64 (bits BinOp.or .u64 3 ((r.text.size:Int)*65536)) 256))).setCell (Δ g 1) (.int .u64 (r.stamp.toNat:Int))).setCell (Δ g 2) (.int .u64 (r.next.toNat:Int)))) g 28 (Ns r 0)):=Aa (by
      have h:=Me.out;rw [hX,hY]at h;unfold Ns;rw [uO.out,Ai9,Zh];have e:bits BinOp.or .u64 (bits BinOp.or .u64 3 ((r.text.size:Int)*65536)) 256=((Iu r.text.size true:Nat):Int):=by rw [HZ0.out];exact Agx
      have e2:=Qc h40 true;simp only [Aj,Aq,e]at h;simp only [Cj,EM,Cb,Gv,wv,e,e2,show(((0:UInt64).toNat:Nat):Int)=0 from rfl];exact h)
     have HB0:Hid (Below g w1 (((((W2.setCell (Φ g) (Au .u64 (bits BinOp.or .u64 3 ((r.text.size:Int)*65536)))).setCell (Φ g) (Au .u64 (bits BinOp.or .u64 (bits BinOp.or .u64 3 ((r.text.size:Int)*65536)) 256))).setCell (Δ g 1) (.int .u64 (r.stamp.toNat:Int))).setCell (Δ g 2) (.int .u64 (r.next.toNat:Int))))):=Aa ((((hb2.setCell (p:=Φ g) (Ad _) _).setCell (p:=Φ g) (Ad _) _).setCell (p:=Δ g 1) (Ad _) _).setCell (p:=Δ g 2) (Ad _) _);clear hX hY Me HK6 HF HX0 HZ hb2
     go_wp2_with fail
     clear a23 a32 a40 a51 a63 c2 f2 c3 f3 c4 f4 c5 f5;generalize(((((W2.setCell (Φ g) (Au .u64 (bits BinOp.or .u64 3 ((r.text.size:Int)*65536)))).setCell (Φ g) (Au .u64 (bits BinOp.or .u64 (bits BinOp.or .u64 3 ((r.text.size:Int)*65536)) 256))).setCell (Δ g 1) (.int .u64 (r.stamp.toNat:Int))).setCell (Δ g 2) (.int .u64 (r.next.toNat:Int))))=W5 at*;generalize bits BinOp.or .u64 (bits BinOp.or .u64 3 ((r.text.size:Int)*65536)) 256=hd1 at*;generalize bits BinOp.or .u64 3 ((r.text.size:Int)*65536)=hd0 at*
     go_loopw [36](λi wr=>∃k:Nat,k<=r.text.size/\i= .int .i64 (k:Nat)/\CS wr g 28 (Ns r k)/\Below g w1 wr)(λi _=>r.text.size- (intOf i).toNat)
     case atStart=>exact⟨0,Nat.zero_le _,rfl,HR0.out,HB0.out⟩
     case round=>
      obtain⟨k,hk,rfl,hrow,hbr⟩:=hrel;have qi:=Aa hrow;have Nr:=Aa hbr;clear hrow hbr;have hkn:k=r.text.size:=Ω HZ0.out
      subst hkn;have HE:Hid (Ns r r.text.size=(Dj r).map wv):=Aa (by
       unfold Ns Dj;rw [FM (show r.text.data.toList.length<=r.text.size from Ad _)])
      go_wp2_with fail
      go_ret2;refine⟨HB1.out.trans (Nr.out.mono (Ψ HG.out HB1.out.size)),?_⟩;rw [if_pos HV.out];have hO:=qi.out.own (B:=w.heap.size) (Ψ HG.out HB1.out.size) (by rw [HE.out,BJ,Iw];decide);rw [HE.out,BJ,Iw]at hO;exact⟨g,rfl,hO⟩
def aj(a b:ByteArray):(a==b)=decide (a=b):=by
 cases a with| mk x=>cases b with| mk y=>
 have h:((⟨x⟩:ByteArray)==⟨y⟩)=(x==y):=rfl;rw [h,Bool.eq_iff_iff,beq_iff_eq,decide_eq_true_eq,ByteArray.mk.injEq]
section
variable{P:Program}{t kt et:TypeId}
def P9(hk:P.underlying kt=some .string)(b:Bool)(n:Nat)(k:ByteArray)(w:World):(Instr.checkKey b (n+1) kt (.string k)).run P w= .ok () w:=by
 simp [Instr.checkKey,run_underlying hk,Result.andThen]
end
def PD:Nat->List (ByteArray×Value)->List MapEntry
 | _,[]=>[]
 | i,(o,v)::t=>{key:= .string o,val:=v,born:=i}::PD (i+1) t
def Aae(o:ByteArray)(v:Value):∀(l:List (ByteArray×Value))(i:Nat),PD i (l++[(o,v)])=PD i l++[{key:= .string o,val:=v,born:=i+l.length}]
 | [],i=>rfl
 | (a,b)::t,i=>by
   simp only [Cj,PD,Aae o v t (i+1),BB];rw [show i+1+t.length=i+(t.length+1)by omega]
def YB:∀(l:List (ByteArray×Value))(i:Nat),(PD i l).length=l.length
 | [],_=>rfl
 | (_,_)::t,i=>by simp [PD,YB t]
def gU(k:ByteArray):∀(l:List (ByteArray×Value))(i n:Nat),(∀p∈l,p.1≠k)->Instr.findNow .string (.string k) (PD i l) n=some none
 | [],_,_,_=>rfl
 | (a,b)::t,i,n,h=>by
   have ha:(k==a)=false:=by rw [aj];exact decide_eq_false (λe=>h (a,b) (Bh ..) e.symm)
   simp only [PD,Instr.findNow,Instr.sameNow,ha];exact gU k t (i+1) (n+1) (λp hp=>h p (BH _ hp))
def ak(k:ByteArray)(v:Value)(l2:List (ByteArray×Value)):∀(l1:List (ByteArray×Value))(i n:Nat),(∀p∈l1,p.1≠k)->Instr.findNow .string (.string k) (PD i (l1++(k,v)::l2)) n=some (some (n+l1.length,v))
 | [],_,_,_=>by
   have ha:(k==k)=true:=by rw [aj];exact decide_eq_true rfl
   simp [PD,Instr.findNow,Instr.sameNow,ha]
 | (a,b)::t,i,n,h=>by
   have ha:(k==a)=false:=by rw [aj];exact decide_eq_false (λe=>h (a,b) (Bh ..) e.symm)
   simp only [Cj,PD,Instr.findNow,Instr.sameNow,ha];rw [ak k v l2 t (i+1) (n+1) (λp hp=>h p (BH _ hp))];simp only [BB];rw [show n+1+t.length=n+(t.length+1)by omega]
def Jj(w:World)(mb:Nat)(l:List (ByteArray×Value)):Prop:=w.heap[mb]? =some (.map (PD 0 l).toArray l.length)
def Jj.lt{w:World}{mb:Nat}{l:List (ByteArray×Value)}(h:Jj w mb l):mb<w.heap.size:=(AB.1 h).1
def Jj.below{w w':World}{mb:Nat}{l:List (ByteArray×Value)}(h:Jj w mb l)(k:η w w'):Jj w' mb l:=(k.block _ h.lt).trans h
section
variable{P:Program}{t kt et:TypeId}
def xI(ht:P.underlying t=some (.map kt et))(hk:P.underlying kt=some .string)(W:World)(mb:Nat)(l1 l2:List (ByteArray×Value))(k:ByteArray)(v:Value)(h:Jj W mb (l1++(k,v)::l2))(hn:∀p∈l1,p.1≠k):
 (Instr.lookup t (.map (some mb)) (.string k) false).run P W= .ok v W:=by
 have h1:=run_underlying (P:=P) ht;have h2:=run_underlying (P:=P) hk;have h3:=λb w=>P9 (P:=P) hk b 9999 k w
 have h4:=LC (P:=P) h;have hf:=ak k v l2 l1 0 0 hn;simp [Instr.lookup,h1,h2,h3,h4,Instr.findKey,hf,Result.andThen]
def gV(ht:P.underlying t=some (.map kt et))(hk:P.underlying kt=some .string)(W:World)(mb:Nat)(l:List (ByteArray×Value))(k:ByteArray)(v:Value)(h:Jj W mb l)(hn:∀p∈l,p.1≠k):
 (Instr.mapUpdate t (.map (some mb)) (.string k) v).run P W= .ok () (Ef W mb (PD 0 (l++[(k,v)])).toArray (l++[(k,v)]).length):=by
 have h1:=run_underlying (P:=P) ht;have h2:=run_underlying (P:=P) hk;have h3:=λw=>P9 (P:=P) hk false 9999 k w
 have h4:=LC (P:=P) h;have h5:=λo=>Ur (P:=P) o h
 have hf:=gU k l 0 0 hn;rw [Aae];simp [Instr.mapUpdate,h1,h2,h3,h4,h5,Instr.findKey,hf,Ef,Result.andThen]
end
