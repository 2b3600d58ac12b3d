import Derived.Test.YtbkpiojejmhfcaaGreatDoorG28
import Derived.Test.YtbkpiojejmhfcaaGreatDoorG31
namespace Go.Proofs.YtbkpiojejmhfcaaGreatDoor
open Go.RowKit
structure Av where
 t:ByteArray
 ps:Value
 n:Int
 d:Bool
 e:Int
def avV(x:Av):Value:=anV x.t x.ps x.n x.d x.e
def avC(x:Av):List Value:=[.string x.t,x.ps,.int .i64 x.n,.bool x.d,.int .i64 x.e]
def avCs(l:List Av):List Value:=(l.map avC).flatten
theorem avCs_app(l:List Av)(a:Av):avCs (l++[a])=avCs l++avC a:=by simp [avCs]
theorem Tryz.ansTyK:RowTyK Tryz.prog 167 91 (.agg #[.string ⟨#[]⟩,.slice none 0 0,.int .i64 0,.bool false,.int .i64 0]) 5 64:=⟨Tryz.underlying167,by kernel_rfl,rfl⟩
def SpR(w:World)(A:Option Addr)(l:List Sp):Prop:=Rd w A (l.length*4) (spCs l)
theorem SpR.at{w:World}{A:Option Addr}{l:List Sp}(h:SpR w A l)(k:Nat)(hk:k<l.length):∃b off,A=some ⟨b,off,none⟩∧b<w.heap.size∧w.cell? ⟨b,off+k*4,none⟩=some (.int .i64 (l[k].what:Int))∧w.cell? ⟨b,off+k*4+1,none⟩=some (.int .i64 (l[k].id:Int))∧
 w.cell? ⟨b,off+k*4+2,none⟩=some (.string l[k].key)∧w.cell? ⟨b,off+k*4+3,none⟩=some (.string l[k].text):=by
 obtain⟨b,off,e,hb,hc⟩:=h.2 (by omega)
 have key:∀i,i<4→w.cell? ⟨b,off+k*4+i,none⟩=(spC l[k])[i]? :=fun i hi=>by
  rw [Nat.add_assoc,hc (k*4+i) (by omega)]
  exact flat_get spC 4 (fun _=>rfl) l k i hk hi
 exact⟨b,off,e,hb,key 0 (by decide),key 1 (by decide),key 2 (by decide),key 3 (by decide)⟩
theorem Kept.touch{B:Nat}{w w':World}{r:Option Nat}(h:Kept w w' r)(k:Below B w w'):Touch (fun q=>r=some q) w w':=⟨k.os,k.tape,k.output,h.1,fun q hq hn=>h.2 q hq (fun e=>hn e.symm)⟩
def Outs(X:Nat→Prop)(q:Nat):Prop:=¬(X q∨q=0∨q=1)
set_option maxHeartbeats 4000000 in
set_option maxRecDepth 100000 in
theorem scrRun(g:Nat)(l:List Sp)(A:Option Addr)(c:Nat)(w:World)(hl:l.length≤400)(h:SpR w A l)(az:List Av)(has:az.length=l.length)(hps:∀k(h:k<az.length),∃B n c,az[k].ps= .slice B n c)
 (S:Nat→World→(Nat→Prop)→Prop)(hst:∀k W W' X X',S k W X→Touch X W W'→(∀q,X' q→X q∨(W.heap.size≤q∧q<W'.heap.size))→S k W' X')
 (hstep:∀k W X(hk:k<l.length)(hk2:k<az.length),S k W X→Calls Tryz.prog 81 #[.pointer (some ⟨g,0,none⟩),spV l[k]] W fun e w'=>e= .returned (avV az[k])∧S (k+1) w' X∧Touch (Outs X) W w')
 {X0:Nat→Prop}(h0:S 0 w X0)(hA:∀a,A=some a→X0 a.block):
 Calls Tryz.prog 80 #[.pointer (some ⟨g,0,none⟩),.slice A l.length c] w fun e w'=>∃v X,e= .returned v∧w'.ownsRow w.heap.size 91 5 v az.length (avCs az)∧S l.length w' X∧(∀q,X0 q→X q)∧(∀q,X q→X0 q∨w.heap.size≤q)∧(∀q,v.ownBlock=some q→X q)∧Touch (Outs X0) w w':=by
 have HR:=Lib.hid h
 have H0:=Lib.hid h0
 have HA:=Lib.hid hA
 have HAs:=Lib.hid has
 have HPs:=Lib.hid hps
 have HSt:=Lib.hid hst
 have HSp:=Lib.hid hstep
 have t1:decide ((400:Int)<(l.length:Int))=false:=decide_eq_false (by omega)
 have t2:decide (400<l.length)=false:=decide_eq_false (by omega)
 obtain⟨n,hn⟩:∃n,n=l.length:=⟨_,rfl⟩
 have HN:=Lib.hid hn
 rw [←hn]at t1 t2 hl has⊢
 clear h h0 hA hps hst hstep hn
 go_enter Tryz.func80,Tryz.ntmps80
 go_wp2_with fail
 go_loopw [5,15](fun u i wr=>∃(k:Nat)(X:Nat→Prop),k≤n∧i= .int .i64 (k:Int)∧S k wr X∧((∀q,X0 q→X q)∧(∀q,X q→X0 q∨w.heap.size≤q)∧Touch (Outs X0) w wr)∧wr.ownsRow w.heap.size 91 5 u k (avCs (az.take k))∧∀q,u.ownBlock=some q→X q)(fun _ i _=>n- (intOf i).toNat)
 case atStart=>exact⟨0,X0,Nat.zero_le _,rfl,H0.out,⟨fun _ h=>h,fun _ h=> .inl h,Touch.refl _ _⟩,World.ownsRow_nil _ _ _ _,fun q hq=>nomatch hq⟩
 case round=>
  obtain⟨k,X,hk,rfl,hS,hM,hown,hub⟩:=hrel
  obtain⟨w0,hw0⟩:∃x,x=wr:=⟨_,rfl⟩
  subst hw0
  have HS:=Lib.hid hS
  have HM:=Lib.hid hM
  have HO:=Lib.hid hown
  have HU:=Lib.hid hub
  clear hS hM hown hub
  by_cases hlt:k<n
  ·have hkl:k<l.length:=by have:=HN.out;omega
   have hka:k<az.length:=by omega
   have hR0:SpR w0 A l:=by
    refine Rd.touch HR.out HM.out.2.2 (fun a ea h=>h (.inl (HA.out a ea)))
   obtain⟨b,off,rfl,hbw,q0,q1,q2,q3⟩:=hR0.at k hkl
   have hx1:(k:Int)<(n:Int):=by omega
   have hx2:decide ((k:Int)<(n:Int))=true:=decide_eq_true hx1
   have hx5:decide (k<n)=true:=decide_eq_true hlt
   have hwk:IntKind.i64.wrap ((k:Int)+1)=(k:Int)+1:=IntWalk.i64_in _ (by omega)
   obtain⟨w4,hw4⟩:∃w4,w4=w0.alloc (.cells #[.int .i64 (l[k].what:Int),.int .i64 (l[k].id:Int),.string l[k].key,.string l[k].text] 170):=⟨_,rfl⟩
   have hb4:Below w0.heap.size w0 w4:=hw4▸(Below.refl _ _).alloc (Nat.le_refl _) _
   have hS4:=HSt.out _ _ _ _ _ HS.out (Touch.of_below hb4) (fun q h=> .inl h)
   have hDo:=HSp.out _ _ _ hkl hka hS4
   have HB4:=Lib.hid hb4
   have HO4:=Lib.hid (own_below5 HO.out hb4)
   have hTk:az.take (k+1)=az.take k++[az[k]]:=List.take_succ_eq_append_getElem hka
   obtain⟨B,pn,pc,hpe⟩:=HPs.out k hka
   have HTk:Hid (avCs (az.take (k+1))=avCs (az.take k)++avC az[k]):=Lib.hid (by rw [hTk,avCs_app])
   have hone:∀u∈avC az[k],u.oneCell'=true:=by
    intro u hu
    unfold avC at hu
    rw [hpe]at hu
    simp at hu
    rcases hu with rfl| rfl| rfl| rfl| rfl<;>rfl
   have HOne:=Lib.hid hone
   unfold spV avV anV at hDo
   have HDo:=Lib.hid hDo
   have HW4:=Lib.hid hw4
   clear hTk hS4 hDo hw4 hb4 hR0 hone
   generalize l[k].what=z1 at*
   generalize l[k].id=z2 at*
   generalize l[k].key=z3 at*
   generalize l[k].text=z4 at*
   obtain⟨av,hav⟩:∃av,av=az[k]:=⟨_,rfl⟩
   rw [←hav]at HDo HTk HOne hpe
   obtain⟨at_,aps,an,ad,ae⟩:=av
   dsimp only at HDo hpe
   subst hpe
   clear hav
   go_wp2_with fail
   rw [←HW4.out]
   refine HDo.out.mono ?_
   rintro e w5⟨rfl,hS5,hT5⟩
   have hO5:=own_touch HO4.out hT5 (fun q hq h=>h (.inl (HU.out q hq)))
   have hT05:Touch (Outs X0) w w5:=(HM.out.2.2.trans (Touch.of_below (F:=Outs X0) HB4.out) (fun _ h=> .inl h)).trans hT5 (fun q h=> .inl (fun h0=>h (h0.imp (HM.out.1 q) id)))
   have HO5:=Lib.hid hO5
   have HT5:=Lib.hid hT05
   have HS5:=Lib.hid hS5
   have hsz5:=hT05.size
   clear hS5 hT5 hO5 hT05 HDo
   go_wp2_with(at_builtin;refine wpList_app_one rfl (.tmp 19) (.tmp 23) 167 rfl Tryz.ansTyK w5 w.heap.size u5 k (avCs (az.take k)) (avC ⟨at_,.slice B pn pc,an,ad,ae⟩) rfl (by exact HO5.out) rfl _ 1 rfl rfl rfl (by decide) (by exact HOne.out) (by omega) (by decide) (by exact hsz5) ?_;intro g8 c8 w8 hO8 hB8 hK8 hg8)
   have ht8:=hK8.touch hB8
   have hob:=own_blk hO8
   have hS8:=HSt.out _ _ _ _ (fun q=>X q∨q=g8) HS5.out (ht8.mono (fun q hq=>HU.out q hq)) (fun q hq=>hq.elim .inl (fun e=>by
    subst e
    rcases hg8 with h| h
    ·exact .inl (HU.out _ h)
    ·exact .inr ⟨h,(hob _ rfl).2⟩))
   have hT8:Touch (Outs X0) w w8:=HT5.out.trans ht8 (fun q hq=> .inr (own_blk HO5.out q hq).1)
   have HM8:Hid ((∀q,X0 q→(X q∨q=g8))∧(∀q,(X q∨q=g8)→X0 q∨w.heap.size≤q)∧Touch (Outs X0) w w8):=Lib.hid ⟨fun q hq=> .inl (HM.out.1 q hq),fun q hq=>hq.elim (HM.out.2.1 q) (fun e=>by subst e;exact .inr (hob _ rfl).1),hT8⟩
   have HU8:Hid (∀q,(Value.slice (some ⟨g8,0,none⟩) (k+1) c8).ownBlock=some q→(X q∨q=g8)):=Lib.hid (fun q hq=>by injection hq with hq;exact .inr hq.symm)
   have HS8:=Lib.hid hS8
   have HO8:=Lib.hid hO8
   clear ht8 hS8 hT8 hob hO8 hB8 hK8 hg8
   go_wp2_with fail
   go_roundw
   case rel=>exact⟨k+1,_,by omega,by go_num,HS8.out,HM8.out,by rw [HTk.out];exact HO8.out,HU8.out⟩
   case measure=>simp [intOf];omega
  ·have hkn:k=n:=by omega
   subst hkn
   have hx2:decide ((k:Int)<(k:Int))=false:=decide_eq_false (by omega)
   have hx5:decide (k<k)=false:=decide_eq_false (by omega)
   have HO5:=HO.out
   rw [List.take_of_length_le (by omega),←has]at HO5
   have HO5:=Lib.hid HO5
   go_wp2_with fail
   go_ret
   exact⟨_,X,rfl,HO5.out,HS.out,HM.out.1,HM.out.2.1,HU.out,HM.out.2.2⟩
def Frames(S:World→(Nat→Prop)→Prop):Prop:=∀W W' X X',S W X→Touch X W W'→(∀q,X' q→X q∨(W.heap.size≤q∧q<W'.heap.size))→S W' X'
def Steps(S0 S1:World→(Nat→Prop)→Prop)(f:FuncId)(args:Array Value)(V:Value):Prop:=
 ∀W X,S0 W X→Calls Tryz.prog f args W fun e w'=>e= .returned V∧S1 w' X∧Touch (Outs X) W w'
theorem do_frame{S0 S1:World→(Nat→Prop)→Prop}(h0:Frames S0)(h1:Frames S1){f:FuncId}{args:Array Value}{V V2:Value}(hc:Steps S0 S1 f args V){w:World}{X:Nat→Prop}(hs:S0 w X){F2:FuncId}{args2:Array Value}
 (hd:∀{R:World→World→Prop}{G:Nat→Prop},(∀i,i<3→¬G (w.heap.size+i))→(∀W,Below w.heap.size w W→w.heap.size+3=W.heap.size→Calls Tryz.prog f args W fun e w'=>e= .returned V∧R W w'∧Touch G W w')→
  Calls Tryz.prog F2 args2 w fun e w'=>e= .returned V2∧DoPost w R w'):
 Calls Tryz.prog F2 args2 w fun e w'=>e= .returned V2∧S1 w' X∧Touch (Outs X) w w':=by
 have hY:∀W,Below w.heap.size w W→w.heap.size+3=W.heap.size→S0 W (fun q=>X q∨DoN w.heap.size q):=fun W hW hs3=>h0 _ _ _ _ hs (Touch.of_below hW) (fun q hq=>hq.imp id (fun h=>⟨h.1,by have:=h.2;omega⟩))
 refine(hd (R:=fun W w1=>S1 w1 (fun q=>X q∨DoN w.heap.size q)∧Touch (Outs (fun q=>X q∨DoN w.heap.size q)) W w1) (G:=Outs (fun q=>X q∨DoN w.heap.size q)) (fun i hi h=>h (.inl (.inr ⟨by omega,by omega⟩))) (fun W hW hs3=>(hc W _ (hY W hW hs3)).mono fun e w'⟨he,h1,h2⟩=>⟨he,⟨h1,h2⟩,h2⟩)).mono ?_
 rintro e w'⟨rfl,W,w1,hbW,hsW,⟨hR1,hR2⟩,hT⟩
 refine⟨rfl,h1 _ _ _ _ hR1 (hT.mono (fun q h=> .inr h)) (fun q h=> .inl (.inl h)),?_⟩
 have t1:Touch (Outs X) w w1:=(Touch.of_below (F:=Outs X) hbW).trans hR2 (fun q h=> .inl (fun hx=>h (hx.imp .inl id)))
 exact t1.trans hT (fun q h=> .inr h.1)
end Go.Proofs.YtbkpiojejmhfcaaGreatDoor
