import Derived.Test.YtkimaejoeapmnaaGreatDoorRows
import Derived.Test.YtkimaejoeapmnaaGreatDoorH03
set_option linter.defProp false
set_option maxHeartbeats 32000000
set_option maxRecDepth 100000
open Nat renaming eq_zero_or_pos->Hu,le_refl->Ad,zero_le->BU
open List renaming eq_nil_of_length_eq_zero->Ci,replicate->BC,any_eq_true->YR,findIdx?_eq_some_iff_getElem->KW
open Go.Lib renaming run_eql_slice_nil->Jl,hid->Aa
open Go.World renaming ownsRow_nil->Fp,ownsRow_made->zu
namespace Go.Proofs.YtkimaejoeapmnaaGreatDoor
open Go.RowKit
open Go.Proofs.Tryz
def Tryz.Gq:MH prog 22 5 (.int .u8 0) 1:=⟨underlying22,by kernel_rfl,rfl⟩
def Tryz.infoByte:(prog.info? 5).map (λi=>(i.zero,i.size,i.bytes))=some (some (.int .u8 0),1,1):=by kernel_rfl
def Tryz.Jp:MH prog 91 28 (.int .u64 0) 8:=⟨underlying91,by kernel_rfl,rfl⟩
def Zk (A : Option Addr) (n c : Nat) (l : List UInt64) (w : World) (hn : n <= 1000000) (h : Ws w A n l) :
    Calls prog 201 #[.slice A n c] w λe w' => ∃ v, e = .returned v /\ w'.ownsRow w.heap.size 28 1 v n (l.map wv) /\ η w w' := by
  have hlen := h.len
  rcases A with _ | ad
  · have hn0 : n = 0 := by
      rcases Hu n with h0 | h0
      · exact h0
      · obtain ⟨_, _, e, _⟩ := h.2 h0; cases e
    subst hn0
    have hl : l = [] := Ci hlen
    subst hl
    have q1 := λW => Jl (P := prog) W 91 28 none 0 c 0 0 underlying91
    go_enter func201, ntmps201
    go_wp2
    go_ret
    exact ⟨_, rfl, Fp _ _ _ _, Below.refl _ _⟩
  · have q1 := λW => Jl (P := prog) W 91 28 (some ad) n c 0 0 underlying91
    go_enter func201, ntmps201
    go_wp2_with (at_builtin; refine TN rfl (.tmp 5) (.tmp 6) 91 rfl Tryz.Jp w.heap.size (.slice (some ⟨w.heap.size, 0, none⟩) 0 0) 0 [] (l.map wv) rfl (zu w #[] 0 (Ad _) U rfl) (some ad) n c rfl (h.below ((Below.refl _ _).alloc (Ad _) _)) (PW _) O U Θ ?_; intro v2 w2 hown2 hb2)
    go_ret
    exact ⟨v2, rfl, by simpa using hown2, ((Below.refl _ _).alloc (Ad _) _).trans hb2⟩
def Uk (A : Option Addr) (n c : Nat) (l : List UInt8) (w : World) (hn : n <= 1000000) (h : Bs w A n l) :
    Calls prog 119 #[.slice A n c] w λe w' => ∃ v, e = .returned v /\ w'.ownsRow w.heap.size 5 1 v n (l.map bv) /\ η w w' := by
  have hlen := h.len
  rcases A with _ | ad
  · have hn0 : n = 0 := by
      rcases Hu n with h0 | h0
      · exact h0
      · obtain ⟨_, _, e, _⟩ := h.2 h0; cases e
    subst hn0
    have hl : l = [] := Ci hlen
    subst hl
    have q1 := λW => Jl (P := prog) W 22 5 none 0 c 0 0 underlying22
    go_enter func119, ntmps119
    go_wp2
    go_ret
    exact ⟨_, rfl, Fp _ _ _ _, Below.refl _ _⟩
  · have q1 := λW => Jl (P := prog) W 22 5 (some ad) n c 0 0 underlying22
    go_enter func119, ntmps119
    go_wp2_with (at_builtin; refine TN rfl (.tmp 5) (.tmp 6) 22 rfl Tryz.Gq w.heap.size (.slice (some ⟨w.heap.size, 0, none⟩) 0 0) 0 [] (l.map bv) rfl (zu w #[] 0 (Ad _) U rfl) (some ad) n c rfl (h.below ((Below.refl _ _).alloc (Ad _) _)) (Hm _) O U Θ ?_; intro v2 w2 hown2 hb2)
    go_ret
    exact ⟨v2, rfl, by simpa using hown2, ((Below.refl _ _).alloc (Ad _) _).trans hb2⟩
def SX(A:Option Addr)(n c:Nat)(l:List UInt8)(w:World)(hn:n<=4294967296)(h:Bs w A n l):
 Calls prog 192 #[.slice A n c] w λe w'=>e= .returned (.bool (l.all DK))/\w=w':=by
 have hlen:=h.len;go_enter func192,ntmps192;go_wp2
 go_loop [7](λi=>∃k:Nat,k<=n/\i= .int .i64 k/\(l.take k).all DK=true)(λi=>n- (intOf i).toNat)
 case atStart=>exact⟨0,BU _,rfl,by simp⟩
 case round=>
  obtain⟨k,hk,rfl,hall⟩:=hrel;by_cases hlt:k<n
  ·obtain⟨hl,b,off,rfl,hb,hc⟩:=h.at hlt;by_cases h16:l[k].toNat<16
   ·have HS:=Aa (TP DK l k hl hall (Wi h16));clear hall;go_wp2
    go_round
    case rel=>exact⟨k+1,O,by go_num,HS.out⟩
    case measure=>simp [intOf];omega
   ·have HS:=Aa (Wh DK l k hl (Aff h16));clear hall;go_wp2;go_ret;exact⟨by rw [HS.out];rfl,rfl⟩
  ·have hkn:k=n:=O
   subst hkn;go_wp2;go_ret;exact⟨Abn (by rw [<-hlen]at hall;simpa using hall),rfl⟩
def Am9(s:ByteArray)(w:World)(hs:s.size<=1000000):
 Calls prog 153 #[.string s] w λe w'=>∃v,e= .returned v/\w'.ownsRow w.heap.size 5 1 v (2*s.size) ((Dn s.data.toList).map bv)/\η w w':=by
 obtain⟨i0,hi,hz0,hz1,hz2⟩:=info_parts Tryz.infoByte;go_enter func153,ntmps153
 go_wp2_with(at_make;refine wpList_make_own _ rfl _ _ 22 rfl w.heap.size 5 i0 (.int .u8 0) 1 underlying22 hi hz0 hz1 .i64 .i64 _ (2*s.size) rfl rfl Θ (by rw [hz2];omega) (by unfold maxLen;omega) (Ad _) ?_;intro w0 hown0 hgrow0)
 have hb0:η w w0:=(Below.refl _ _).grown hgrow0 (Ad _) Θ;clear hgrow0
 go_loopw [3,11](λv i wr=>∃k:Nat,k<=s.size/\i= .int .i64 k/\wr.ownsRow w.heap.size 5 1 v (2*k) ((Dn (s.data.toList.take k)).map bv)/\η w wr)(λ_ i _=>s.size- (intOf i).toNat)
 case atStart=>exact⟨0,BU _,rfl,by simpa [Dn]using hown0,hb0⟩
 case round=>
  obtain⟨k,hk,rfl,hown,hb⟩:=hrel;clear hown0;have hsz:=hb.size;by_cases hlt:k<s.size
  ·have hl:k<s.data.toList.length:=by simpa using hlt
   have HS:=Aa (Ub s k hlt);go_wp2
   go_region_law(refine jq rfl (.tmp 14) (.tmp 23) 22 rfl Tryz.Gq wr w.heap.size u3 (2*k) ((Dn (s.data.toList.take k)).map bv) [Value.int .u8 (IntKind.u8.wrap (↑s[k].toNat/16)),Value.int .u8 ((↑s[k].toNat:Int).tmod 16)] (by simp [Act.eval]) hown rfl rfl rfl rfl 2 2 (by simp [Act.eval]) rfl (by simp [Value.oneCell']) (by simp;omega) U hsz ?_;intro v2 w2 hown2 hb')
   all_goals
    have hb2:=hb.trans hb';rw [Ajc,Ajd]at hown2;clear hown hb hb';go_wp2;go_roundw
    case rel=>exact⟨k+1,O,by go_num,by rw [HS.out,List.map_append];exact hown2,hb2⟩
    case measure=>simp [intOf];omega
  ·have hkn:k=s.size:=O
   subst hkn;go_wp2;go_ret;exact⟨_,rfl,by rw [List.take_of_length_le Θ]at hown;exact hown,hb⟩
def Lt(A B:Option Addr)(n m ca cb:Nat)(a b:List UInt8)(w:World)(hn:n<=4294967296)(_hm:m<=4294967296)(ha:Bs w A n a)(hb:Bs w B m b):
 Calls prog 155 #[.slice A n ca,.slice B m cb] w λe w'=>e= .returned (.int .i64 (common a b:Nat))/\Dr w w':=by
 have hla:=ha.len;have hlb:=hb.len;go_enter func155,ntmps155;go_wp2
 go_loopw [5](λi wr=>∃k:Nat,k<=n/\i= .int .i64 k/\alike k a b/\Dr w wr)(λi _=>n- (intOf i).toNat)
 case atStart=>exact⟨0,BU _,rfl,uZ _ _,Dr.refl _⟩
 case round=>
  obtain⟨k,hk,rfl,hal,q,rfl⟩:=hrel;have hkm:=hal.2.1;by_cases hlt:k<n
  ·obtain⟨hl,p,off,rfl,hp,hc⟩:=ha.at hlt;by_cases hlt2:k<m
   ·obtain⟨hl2,p2,Aje,rfl,hp2,hc2⟩:=hb.at hlt2;by_cases he:a[k]=b[k]
    ·have HS:=Aa (ve hal hl hl2 he);have hbq:=nT he;clear hal he;go_wp2
     go_quiet(fail)
     go_wp2;go_roundw
     case rel=>exact⟨k+1,O,by go_num,HS.out,by first| exact Dr.one _ _| exact Dr.two _ _ _⟩
     case measure=>simp [intOf];omega
    ·have HS:=Aa (Yh hal hl hl2 he);have hbq:=jr he;clear hal he;go_wp2
     go_quiet(fail)
     go_wp2;go_ret;exact⟨by rw [HS.out];rfl,by first| exact Dr.one _ _| exact Dr.two _ _ _⟩
   ·have HS:=Aa (Uc hal O);have hd:decide (k<m)=false:=by simpa using hlt2
    clear hal;go_wp2
    go_quiet(fail)
    go_wp2;go_ret;exact⟨by rw [HS.out];rfl,by first| exact Dr.one _ _| exact Dr.two _ _ _⟩
  ·have HS:=Aa (Oy hal O);have hd:decide (k<n)=false:=by simpa using hlt
   clear hal;go_wp2
   go_quiet(fail)
   go_wp2;go_ret;exact⟨by rw [HS.out];rfl,by first| exact Dr.one _ _| exact Dr.two _ _ _⟩
def Vk(A:Option Addr)(n c:Nat)(l:List UInt8)(w:World)(hn:n<=15)(h:Bs w A n l)(Ud:l.all DK=true):
 Calls prog 199 #[.slice A n c] w λe w'=>e= .returned (.tuple #[.int .u64 ((n+16*Fa l:Nat):Int),.bool true])/\w=w':=by
 have hlen:=h.len;have hr:=SX A n c l w O h;rw [Ud]at hr;go_enter func199,ntmps199
 go_wp2_with(go_at_call 192;refine hr.mono ?_;rintro e w'⟨rfl,rfl⟩)
 go_loop [4,20](λv i=>∃k:Nat,k<=n/\i= .int .i64 k/\v= .int .u64 ((n+16*Fa (l.take k):Nat):Int))(λ_ i=>n- (intOf i).toNat)
 case atStart=>exact⟨0,BU _,rfl,by simp [Fa]⟩
 case round=>
  obtain⟨k,hk,rfl,rfl⟩:=hrel;by_cases hlt:k<n
  ·obtain⟨hl,b,off,rfl,hb,hc⟩:=h.at hlt;have HS:=Aa (Abq l n k hn hlt hl Ud);clear hr Ud;go_wp2
   go_round
   case rel=>exact⟨k+1,O,by go_num,HS.out⟩
   case measure=>simp [intOf];omega
  ·have hkn:k=n:=O
   subst hkn;go_wp2;go_ret2;exact⟨by simp [<-hlen],rfl⟩
def Afj(A:Option Addr)(n c:Nat)(w:World)(hn:15<n)(hn2:n<=4294967296):
 Calls prog 199 #[.slice A n c] w λe w'=>e= .returned (.tuple #[.int .u64 0,.bool false])/\w=w':=by
 go_enter func199,ntmps199;go_wp2;go_ret2;exact⟨rfl,rfl⟩
def Ajf(A:Option Addr)(n c:Nat)(l:List UInt8)(w:World)(hn:n<=15)(h:Bs w A n l)(Ud:l.all DK=false):
 Calls prog 199 #[.slice A n c] w λe w'=>e= .returned (.tuple #[.int .u64 0,.bool false])/\w=w':=by
 have hr:=SX A n c l w O h;rw [Ud]at hr;go_enter func199,ntmps199
 go_wp2_with(go_at_call 192;refine hr.mono ?_;rintro e w'⟨rfl,rfl⟩)
 go_ret2;exact⟨rfl,rfl⟩
def vP(x:Nat)(w:World)(e:Ending)(w':World):Prop:=
 η w w'/\(if x/16/16^(x%16)=0 then∃v,e= .returned (.tuple #[v,.bool true])/\w'.ownsRow w.heap.size 5 1 v (x%16) ((digits (x%16) (x/16)).map bv)
  else e= .returned (.tuple #[.slice none 0 0,.bool false]))
def Zl(x:Nat)(w:World)(hx:x<18446744073709551616):
 Calls prog 198 #[.int .u64 (x:Int)] w (vP x w):=by
 obtain⟨i0,hi,hz0,hz1,hz2⟩:=info_parts Tryz.infoByte;have hm:x%16<16:=Nat.mod_lt _ U;go_enter func198,ntmps198
 go_wp2_with(at_make;refine wpList_make_full _ rfl _ _ 22 rfl w.heap.size 5 i0 (.int .u8 0) 1 underlying22 hi hz0 hz1 .i64 .i64 _ _ (x%16) rfl rfl Θ Θ (by rw [hz2];omega) (by unfold maxLen;omega) (Ad _) ?_;intro w0 hown0 hgrow0)
 rw [PX]at hown0;have hb0:η w w0:=(Below.refl _ _).grown hgrow0 (Ad _) Θ;clear hgrow0;obtain⟨m,hmm⟩:∃m,m=x%16:=⟨_,rfl⟩;obtain⟨y,hyy⟩:∃y,y=x/16:=⟨_,rfl⟩;have em:((x:Int)%16)=(m:Int):=O
 have ey:((x:Int)/16)=(y:Int):=O
 have hy:y<18446744073709551616:=O
 have HM:=Aa hmm;have HY:=Aa hyy;rw [em,ey,<-hmm];rw [<-hmm]at hown0 hm;clear em ey hmm hyy
 go_loopw [0,16](λv i wr=>∃k:Nat,k<=m/\i= .int .i64 k/\v= .int .u64 ((y/16^k:Nat):Int)/\wr.ownsRow w.heap.size 5 1 (.slice (some (Φ w.heap.size)) m m) m ((digits k y++BC (m-k) (0:UInt8)).map bv)/\η w wr)(λ_ i _=>m- (intOf i).toNat)
 case atStart=>exact⟨0,BU _,rfl,by simp,by simpa [digits]using hown0,hb0⟩
 case round=>
  clear hown0 hb0;obtain⟨k,hk,rfl,rfl,hown,hb⟩:=hrel;obtain⟨z,hz⟩:∃z,z=y/16^k:=⟨_,rfl⟩;have hzl:z<18446744073709551616:=by rw [hz];exact Nat.lt_of_le_of_lt (Nat.div_le_self _ _) hy
  by_cases hlt:k<m
  ·have hst:=jv k m y hlt;have hpw:((z:Int)/16)=((y/16^(k+1):Nat):Int):=by rw [Nat.pow_succ,<-Nat.div_div_eq_div_mul,<-hz];simp
   rw [<-hz]at hst⊢;have HS:=Aa hst;have HP:=Aa hpw;clear hst hpw hz;obtain⟨u,hu⟩:=YU hown hlt;have hf:=hown.frozenAt k;have hown2:=(hown.stored k (bv (UInt8.ofNat (z%16)))).1;have hb2:=hb.setCell (p:=Δ w.heap.size k) (Ad _) (bv (UInt8.ofNat (z%16)));rw [HS.out,<-zI]at hown2;rw [<-zI]at hb2;clear hown hb;go_wp2;go_roundw
   case rel=>exact⟨k+1,O,by go_num,by rw [HP.out],hown2,hb2⟩
   case measure=>simp [intOf];omega
  ·have hkn:k=m:=O
   subst hkn;rw [<-hz];by_cases hz0:z=0
   ·have ht:((z:Int)!=0)=false:=by simp [hz0]
    have HZ:=Aa hz;have HZ0:=Aa hz0;clear hz hz0;go_wp2;go_ret2;refine⟨hb,?_⟩;rw [<-HM.out,<-HY.out,<-HZ.out,if_pos HZ0.out];exact⟨_,rfl,by simpa using hown⟩
   ·have ht:((z:Int)!=0)=true:=by simp;omega
    have HZ:=Aa hz;have HZ0:=Aa hz0;clear hz hz0;go_wp2;go_ret2;refine⟨hb,?_⟩;rw [<-HM.out,<-HY.out,<-HZ.out,if_neg HZ0.out];rfl
def Ana (A : Option Addr) (n c : Nat) (l : List UInt8) (w : World) (hn : n <= 1000000) (h : Bs w A n l) (hk : Jv l = false) :
    Calls prog 163 #[.slice A n c] w λe w' => e = .returned (.tuple #[.string ⟨#[]⟩, .bool false]) /\ w = w' := by
  have hlen := h.len
  have hr := SX A n c l w O h
  by_cases h2 : n % 2 = 0
  · have Ud : l.all DK = false := by
      simpa [Jv, hlen, h2] using hk
    rw [Ud] at hr
    have t1 : ((n : Int) % 2 != 0) = false := by simp; omega
    clear hk Ud h2
    go_enter func163, ntmps163
    go_wp2_with (go_at_call 192; refine hr.mono ?_; rintro e w' ⟨rfl, rfl⟩)
    go_ret2
    exact ⟨rfl, rfl⟩
  · have t1 : ((n : Int) % 2 != 0) = true := by simp; omega
    clear hk h2 hr
    go_enter func163, ntmps163
    go_wp2
    go_ret2
    exact ⟨rfl, rfl⟩
def Ajg(A:Option Addr)(n c:Nat)(l:List UInt8)(w:World)(hn:n<=1000000)(h:Bs w A n l)(hk:Jv l=true):
 Calls prog 163 #[.slice A n c] w λe w'=>e= .returned (.tuple #[.string ⟨(pairs l).toArray⟩,.bool true])/\η w w':=by
 obtain⟨i0,hi,hz0,hz1,hz2⟩:=info_parts Tryz.infoByte;have hlen:=h.len;have hr:=SX A n c l w O h;simp only [Jv,Bool.and_eq_true,decide_eq_true_eq]at hk;rw [hk.2]at hr;have h2:n%2=0:=O
 obtain⟨m,hm⟩:∃m,n=2*m:=⟨n/2,O⟩;have hmn:m=l.length/2:=O
 have t1:((n:Int)%2 !=0)=false:=by simp;omega
 have em:((n:Int)/2)=(m:Int):=O
 have HM:=Aa hm;have HMN:=Aa hmn;have hm1:m<=n:=O
 clear hk h2 hm hmn;go_enter func163,ntmps163
 go_wp2_with(first| (go_at_call 192;refine hr.mono ?_;rintro e w'⟨rfl,rfl⟩)| (at_make;refine wpList_make_full _ rfl _ _ 22 rfl w.heap.size 5 i0 (.int .u8 0) 1 underlying22 hi hz0 hz1 .i64 .i64 _ _ m rfl rfl (by rfl) (by rfl) (by rw [hz2];omega) (by unfold maxLen;omega) (Ad _) ?_;intro w0 hown0 hgrow0))
 rw [PX]at hown0;have hb0:η w w0:=(Below.refl _ _).grown hgrow0 (Ad _) Θ;clear hgrow0 hr
 go_loopw [21](λi wr=>∃k:Nat,k<=m/\i= .int .i64 k/\wr.ownsRow w.heap.size 5 1 (.slice (some (Φ w.heap.size)) m m) m ((pairs (l.take (2*k))++BC (m-k) (0:UInt8)).map bv)/\η w wr)(λi _=>m- (intOf i).toNat)
 case atStart=>exact⟨0,BU _,rfl,by simpa [pairs]using hown0,hb0⟩
 case round=>
  clear hown0 hb0;obtain⟨k,hk,rfl,hown,hb⟩:=hrel;by_cases hlt:k<m
  ·have hm:=HM.out;have hwr:=h.below hb;obtain⟨hl1,b,off,rfl,hp,hc1⟩:=Bs.at hwr (show 2*k<n by omega);obtain⟨hl2,b',off',e',_,hc2⟩:=Bs.at hwr (show 2*k+1<n by omega);injection e' with e'
   injection e' with e1 e2 e3
   subst e1 e2;have hnn:2*k+1<n:=O
   obtain⟨u,hu⟩:=YU hown hlt;have hf:=hown.frozenAt k;have hown2:=(hown.stored k (bv (l[2*k]*16+l[2*k+1]))).1;have hb2:=hb.setCell (p:=Δ w.heap.size k) (Ad _) (bv (l[2*k]*16+l[2*k+1]));rw [nV l k m hlt hl2 HMN.out]at hown2;have HO:=Aa hown2;have HB:=Aa hb2;clear hown hb hown2 hb2 hm hwr e3;go_wp2;go_region;go_wp2;go_roundw
   case rel=>
    refine⟨k+1,O,by go_num,?_,?_⟩
    ·rw [zJ];exact HO.out.drew
    ·rw [zJ];exact HB.out.drew
   case measure=>simp [intOf];omega
  ·have hkn:k=m:=O
   subst hkn;simp only [Nat.sub_self,List.replicate_zero,List.append_nil]at hown;have hall:pairs (l.take (2*k))=pairs l:=by rw [HMN.out];exact YW l
   rw [hall]at hown;obtain⟨A',c',hv,_,hrd⟩:=CU hown;injection hv with hv1 hv2 hv3
   subst hv1;have hcv:=Ll (P:=prog) underlying22 underlying5 underlying9 hrd k;clear hall hown hv3 hrd hv2;go_wp2;go_ret2;exact⟨rfl,hb⟩
def Afk(w:World)(t:TypeId)(a b c d:Value):∃W,W=w.alloc (.cells #[a,b,c,d] t)/\W.cell? (Φ w.heap.size)=some a/\W.cell? (Δ w.heap.size 1)=some b/\W.cell? (Δ w.heap.size 2)=some c/\
 W.cell? (Δ w.heap.size 3)=some d/\η w W/\W.heap.size=w.heap.size+1:=by
 refine⟨_,rfl,?_,?_,?_,?_,(Below.refl _ _).alloc (Ad _) _,by simp⟩<;>
 ·rw [cell_of_row _ w.heap.size _ _ t (0,0) (heap_alloc_new w _)];rfl
def lines_any(c:Int)(w:World):Calls prog 96 #[.int .i64 c] w λe w'=>e= .returned (.int .i64 (if c=1 then 1 else if c=2 then 4 else 0))/\w=w':=by
 by_cases h1:c=1
 ·subst h1;go_enter func96,ntmps96;go_wp2;go_ret;exact⟨rfl,rfl⟩
 ·by_cases h2:c=2
  ·subst h2;go_enter func96,ntmps96;go_wp2;go_ret;exact⟨rfl,rfl⟩
  ·have t1:(c==1)=false:=by simp [h1]
   have t2:(c==2)=false:=by simp [h2]
   rw [if_neg h1,if_neg h2];go_enter func96,ntmps96;go_wp2;go_ret;exact⟨rfl,rfl⟩
def Lu(c:Int):Int:=if c=1 then 8 else if c=2 then 32 else 0
def Jq(c:Int)(w:World):Calls prog 180 #[.int .i64 c] w λe w'=>e= .returned (.int .i64 (Lu c))/\w=w':=by
 have hl:=lines_any c w;have hv:(8*(if c=1 then 1 else if c=2 then 4 else 0):Int)=Lu c:=by unfold Lu;split<;>(try split)<;>rfl
 have hb:(0:Int)<=(if c=1 then 1 else if c=2 then 4 else 0)/\(if c=1 then 1 else if c=2 then 4 else 0:Int)<=4:=by split<;>(try split)<;>decide
 generalize(if c=1 then 1 else if c=2 then 4 else 0:Int)=r at*;obtain⟨hb1,hb2⟩:=hb;have HV:=Aa hv;clear hv;go_enter func180,ntmps180
 go_wp2_with(go_at_call 96;refine hl.mono ?_;rintro e w'⟨rfl,rfl⟩)
 go_ret;exact⟨by rw [<-HV.out];rfl,rfl⟩
def Ul(A:Option Addr)(n c:Nat)(l:List UInt8)(x:UInt8)(w:World)(hn:n<=4294967296)(h:Bs w A n l):
 Calls prog 182 #[.slice A n c,.int .u8 (x.toNat:Int)] w λe w'=>e= .returned (.int .i64 (placeOf (λy=>y.toNat==x.toNat) l))/\w=w':=by
 have hlen:=h.len;go_enter func182,ntmps182;go_wp2
 go_loop [8](λi=>∃k:Nat,k<=n/\i= .int .i64 k/\∀j(h:j<l.length),j<k->(l[j].toNat==x.toNat)=false)(λi=>n- (intOf i).toNat)
 case atStart=>exact⟨0,BU _,rfl,λj _ hj=>absurd hj O⟩
 case round=>
  obtain⟨k,hk,rfl,hno⟩:=hrel;by_cases hlt:k<n
  ·obtain⟨hl,b,off,rfl,hb,hc⟩:=h.at hlt;by_cases he:l[k].toNat=x.toNat
   ·have t1:((x.toNat:Int)==(l[k].toNat:Int))=true:=by simp [he]
    have HP:=Aa (Xz (λy:UInt8=>y.toNat==x.toNat) l k hl (λj hj=>hno j O hj) (by simp [he]));clear hno he;go_wp2;go_ret;exact⟨by rw [HP.out];rfl,rfl⟩
   ·have t1:((x.toNat:Int)==(l[k].toNat:Int))=false:=by simp;omega
    have HN:Hid (∀j(h:j<l.length),j<k+1->(l[j].toNat==x.toNat)=false):=Aa λj hj hjk=>by
     by_cases e:j=k
     ·subst e;simp [he]
     ·exact hno j hj O
    clear hno he;go_wp2
    go_round
    case rel=>exact⟨k+1,O,by go_num,HN.out⟩
    case measure=>simp [intOf];omega
  ·have hkn:k=n:=O
   subst hkn;have HP:=Aa (Vf (λy:UInt8=>y.toNat==x.toNat) l (λj hj=>hno j hj O));clear hno;go_wp2;go_ret;exact⟨by rw [HP.out];rfl,rfl⟩
def vS(A:Option Addr)(n c:Nat)(l:List UInt64)(x:UInt64)(w:World)(hn:n<=4294967296)(h:Ws w A n l):
 Calls prog 208 #[.slice A n c,.int .u64 (x.toNat:Int)] w λe w'=>e= .returned (.int .i64 (placeOf (λy=>y.toNat==x.toNat) l))/\w=w':=by
 have hlen:=h.len;go_enter func208,ntmps208;go_wp2
 go_loop [8](λi=>∃k:Nat,k<=n/\i= .int .i64 k/\∀j(h:j<l.length),j<k->(l[j].toNat==x.toNat)=false)(λi=>n- (intOf i).toNat)
 case atStart=>exact⟨0,BU _,rfl,λj _ hj=>absurd hj O⟩
 case round=>
  obtain⟨k,hk,rfl,hno⟩:=hrel;by_cases hlt:k<n
  ·obtain⟨hl,b,off,rfl,hb,hc⟩:=h.at hlt;by_cases he:l[k].toNat=x.toNat
   ·have t1:((x.toNat:Int)==(l[k].toNat:Int))=true:=by simp [he]
    have HP:=Aa (Xz (λy:UInt64=>y.toNat==x.toNat) l k hl (λj hj=>hno j O hj) (by simp [he]));clear hno he;go_wp2;go_ret;exact⟨by rw [HP.out];rfl,rfl⟩
   ·have t1:((x.toNat:Int)==(l[k].toNat:Int))=false:=by simp;omega
    have HN:Hid (∀j(h:j<l.length),j<k+1->(l[j].toNat==x.toNat)=false):=Aa λj hj hjk=>by
     by_cases e:j=k
     ·subst e;simp [he]
     ·exact hno j hj O
    clear hno he;go_wp2
    go_round
    case rel=>exact⟨k+1,O,by go_num,HN.out⟩
    case measure=>simp [intOf];omega
  ·have hkn:k=n:=O
   subst hkn;have HP:=Aa (Vf (λy:UInt64=>y.toNat==x.toNat) l (λj hj=>hno j hj O));clear hno;go_wp2;go_ret;exact⟨by rw [HP.out];rfl,rfl⟩
def o5{α:Type}(p:α->Bool)(l:List α):(0<=placeOf p l)<->l.any p=true:=by
 unfold placeOf;cases h:l.findIdx? p with
 | none=>
   rw [List.findIdx?_eq_none_iff]at h;constructor
   ·intro h0;simp at h0
   ·intro ha;obtain⟨x,hx,hp⟩:=YR.1 ha;rw [h x hx]at hp;cases hp
 | some i=>
   rw [KW]at h;obtain⟨hi,hp,_⟩:=h;constructor
   ·intro _;exact YR.2 ⟨_,List.getElem_mem hi,hp⟩
   ·intro _;exact Int.natCast_nonneg i
def dB{α:Type}(p:α->Bool)(l:List α): -1<=placeOf p l/\placeOf p l<max 1 l.length:=by
 unfold placeOf;cases h:l.findIdx? p with
 | none=>simp;omega
 | some i=>
   rw [KW]at h;obtain⟨hi,_⟩:=h;simp;omega
def dC(A:Option Addr)(n c:Nat)(l:List UInt64)(w:World)(hn:n<=4294967296)(h:Ws w A n l):
 Calls prog 200 #[.slice A n c,.int .u64 0] w λe w'=>e= .returned (.bool (l.any λy=>y.toNat==0))/\w=w':=by
 have hi:Calls prog 208 #[.slice A n c,.int .u64 0] w λe w'=>e= .returned (.int .i64 (placeOf (λy=>y.toNat==0) l))/\w=w':=vS A n c l 0 w hn h
 have hp:=o5 (λy:UInt64=>y.toNat==0) l;have hr:=dB (λy:UInt64=>y.toNat==0) l;generalize placeOf (λy:UInt64=>y.toNat==0) l=r at*;cases ha:l.any (λy=>y.toNat==0)with
 | true=>
   have h0:0<=r:=hp.2 ha;clear hp ha;go_enter func200,ntmps200
   go_wp2_with(go_at_call 208;refine hi.mono ?_;rintro e w'⟨rfl,rfl⟩)
   go_ret;exact⟨rfl,rfl⟩
 | false=>
   have h0:r<0:=by
    rcases Int.lt_or_le r 0 with h| h
    ·exact h
    ·rw [hp.1 h]at ha;cases ha
   clear hp ha;go_enter func200,ntmps200
   go_wp2_with(go_at_call 208;refine hi.mono ?_;rintro e w'⟨rfl,rfl⟩)
   go_ret;exact⟨by simp;omega,rfl⟩
def Wp(v1 v2 v3:Value)(A3:Option Addr)(n3 c3:Nat)(w:World)(hn:n3<=4294967296):
 Calls prog 184 #[.agg #[v1,v2,v3,.slice A3 n3 c3]] w λe w'=>e= .returned (.int .i64 (if n3<=4 then 1 else 2))/\η w w':=by
 by_cases h4:n3<=4
 ·rw [if_pos h4];go_enter func184,ntmps184;go_wp2;go_ret;exact⟨rfl,(Below.refl _ _).alloc (Ad _) _⟩
 ·rw [if_neg h4];go_enter func184,ntmps184;go_wp2;go_ret;exact⟨rfl,(Below.refl _ _).alloc (Ad _) _⟩
def L6 (A1 A2 A3 : Option Addr) (n1 c1 n2 c2 n3 c3 : Nat) (x : Nd) (w : World) (b1 : n1 <= 1000000) (b2 : n2 <= 1000000) (b3 : n3 <= 1000000) (h1 : Bs w A1 n1 x.pre) (h2 : Bs w A2 n2 x.labels) (h3 : Ws w A3 n3 x.kids) :
    Calls prog 183 #[.agg #[.slice A1 n1 c1, .int .u64 (x.val.toNat : Int), .slice A2 n2 c2, .slice A3 n3 c3]] w λe w' => e = .returned (.bool (C9 x)) /\ η w w' := by
  have hl1 := h1.len
  have hl2 := h2.len
  have hl3 := h3.len
  obtain ⟨W, hW, e0, e1, e2, e3, hb, hs⟩ := Afk w 212 (.slice A1 n1 c1) (.int .u64 (x.val.toNat : Int)) (.slice A2 n2 c2) (.slice A3 n3 c3)
  have g1 := h1.below hb
  have g2 := h2.below hb
  have g3 := h3.below hb
  have HW := Aa hW
  clear hW
  have HR := Aa (Bq x)
  by_cases hp : n1 <= 15 /\ x.pre.all DK = true
  · have hpk := Vk A1 n1 c1 x.pre W hp.1 g1 hp.2
    have HPK := Aa hpk
    clear hpk
    by_cases hl : n2 = n3
    · subst hl
      have t1 : ((n2 : Int) != (n2 : Int)) = false := by simp
      go_enter func183, ntmps183
      go_wp2_with fail
      rw [<- HW.out]
      refine HPK.out.mono ?_
      rintro e w' ⟨rfl, rfl⟩
      clear HPK h1 h2 h3
      go_wp2_with fail
      go_loop [27] (λi => ∃ k : Nat, k <= n2 /\ i = .int .i64 k /\ (x.labels.take k).all DK = true /\ DW (x.labels.take k) = true) (λi => n2 - (intOf i).toNat)
      case atStart => exact ⟨0, BU _, rfl, by simp, by simp [DW]⟩
      case round =>
        obtain ⟨k, hk, rfl, hall, hris⟩ := hrel
        by_cases hlt : k < n2
        · obtain ⟨hq, p, off, rfl, hp2, hc⟩ := g2.at hlt
          by_cases h16 : x.labels[k].toNat < 16
          · have t2 : decide (16 <= (x.labels[k].toNat : Int)) = false := by simp; omega
            have HA := Aa (TP DK x.labels k hq hall (Wi h16))
            rcases k with _ | j
            · have HS := Aa (Pm x.labels 0 hq hris (λj hj => O))
              have t3 : decide ((0 : Int) < 0) = false := rfl
              clear hall hris
              rw [show ((0 : Nat) : Int) = 0 from rfl]
              simp only [Nat.add_zero] at hc
              go_wp2
              go_round
              case rel => exact ⟨1, O, by go_num, HA.out, HS.out⟩
              case measure => simp [intOf]; omega
            · obtain ⟨hq', p', off', e', hp2', hc'⟩ := g2.at (show j < n2 by omega)
              injection e' with e'
              injection e' with e1' e2' e3'
              subst e1' e2'
              by_cases hr : x.labels[j].toNat < x.labels[j + 1].toNat
              · have t3 : decide ((x.labels[j + 1].toNat : Int) <= (x.labels[j].toNat : Int)) = false := by simp; omega
                have HS := Aa (og x.labels j hq hris hr)
                clear hall hris e3'
                go_wp2
                go_round
                case rel => exact ⟨j + 1 + 1, O, by go_num, HA.out, HS.out⟩
                case measure => simp [intOf]; omega
              · have t3 : decide ((x.labels[j + 1].toNat : Int) <= (x.labels[j].toNat : Int)) = true := by simp; omega
                have HF := Aa (dA x j hq hr)
                clear hall hris e3'
                go_wp2
                go_ret
                exact ⟨by rw [HF.out]; rfl, hb⟩
          · have t2 : decide (16 <= (x.labels[k].toNat : Int)) = true := by simp; omega
            have HF := Aa (jB x k hq h16)
            clear hall hris
            go_wp2
            go_ret
            exact ⟨by rw [HF.out]; rfl, hb⟩
        · have hkn : k = n2 := O
          subst hkn
          rw [<- hl2, List.take_length] at hall hris
          have HF := Aa (vF x O hp.2 O hall hris)
          have hcn := dC A3 k c3 x.kids W O g3
          clear hall hris hp
          go_wp2_with (go_at_call 200; refine hcn.mono ?_; rintro e w' ⟨rfl, rfl⟩)
          go_ret
          exact ⟨by rw [HF.out]; rfl, hb⟩
    · have HF := Aa (jD x O)
      have t1 : ((n2 : Int) != (n3 : Int)) = true := by simp; omega
      go_enter func183, ntmps183
      go_wp2_with fail
      rw [<- HW.out]
      refine HPK.out.mono ?_
      rintro e w' ⟨rfl, rfl⟩
      clear HPK h1 h2 h3
      go_wp2_with fail
      go_ret
      exact ⟨by rw [HF.out]; rfl, hb⟩
  · have HF := Aa (jC x (by rw [hl1]; exact hp))
    have hpk : Calls prog 199 #[.slice A1 n1 c1] W λe w' => e = .returned (.tuple #[.int .u64 0, .bool false]) /\ W = w' := by
      by_cases h15 : n1 <= 15
      · have Ud : x.pre.all DK = false := by
          cases hh : x.pre.all DK with
          | false => rfl
          | true => exact absurd ⟨h15, hh⟩ hp
        exact Ajf A1 n1 c1 x.pre W h15 g1 Ud
      · exact Afj A1 n1 c1 W O O
    have HPK := Aa hpk
    clear hpk hp
    go_enter func183, ntmps183
    go_wp2_with fail
    rw [<- HW.out]
    refine HPK.out.mono ?_
    rintro e w' ⟨rfl, rfl⟩
    clear HPK h1 h2 h3
    go_wp2_with fail
    go_ret
    exact ⟨by rw [HF.out]; rfl, hb⟩
