/- MendAgain is true for every input: wherever a device goes down in a commit, and whatever is left of its lines, Opened twice it has the same bytes as opened once. The row lists two variables of the program and the library, which the card ties to the program's text. No other condition. -/
import Derived.Test.YtekhjimghoibfaaGreatDoorTie
import Derived.Test.YtekhjimghoibfaaGreatDoorCards
import Derived.Test.YtekhjimghoibfaaGreatDoorI30
import Derived.Test.YtekhjimghoibfaaGreatDoorI31
set_option maxHeartbeats 32000000
set_option maxRecDepth 100000
namespace Go.Proofs.YtekhjimghoibfaaGreatDoor.mendAgain
open Go.ChangeShapes Go.WideShapes Go.ChangeAt Go.RowKit
open Go.ChangeMaps(open_string shut_string)
theorem own:ownKnob Tryz.prog.godebug=none:=by kernel_rfl
theorem laidOut:laidOutB Tryz.prog=true:=by kernel_rfl
theorem lifted(os:Os)(Z:os.Started)(H:Type)(enc:TypeId×Value->H):
 ReturnsInHanded {} Tryz.checked os 3 .any (fun b a=>(Rows.mendAgainSpec.pre enc Tryz.prog Tryz.f3 [] false b a/\laidMetH Tryz.prog laid2 b)/\sizedMet enc Tryz.prog Tryz.f3 (OpenSpec.ofChange Rows.mendAgainSpec) false b a)
  (Rows.mendAgainSpec.post enc Tryz.prog Tryz.f3 false true false false):=by
 refine returnsInHanded_of_change_and (C:=Tryz.checked) (X:=fun b _=>laidMetH Tryz.prog laid2 b) (fun _ _ _ K h=>h.of_heap K) own Z (by kernel_rfl) Tryz.func3
  (ChangeSpec.witness_shaped (enc:=enc) (C:=Tryz.checked) (os:=os) (X:=fun b _=>laidMetH Tryz.prog laid2 b) false (World.doorLaid Tryz.prog 400 os) #[.slice none 0 0,.agg #[.int .u8 0,.slice none 0 0]] 8 rfl (World.shaped_of_RefB (by kernel_rfl) (by kernel_rfl)) (by kernel_rfl) (by kernel_rfl) (by kernel_rfl) (door_met os _)) ?_
 intro c z a D al ac o n _ _ E _;have f:∀(p:Nat)s t,Tryz.f3.params[p]?=some s->a[p]?=some t->Value.okWide Tryz.prog c .any z s t:=o;have I:=n;obtain⟨R,aq,m,G,rfl,an,ao⟩:=n;have l:DataW.TrodAll enc Tryz.prog c 0 (fun _=>true) true Tryz.f3.params.toList a.toList D R:=m;rw[Tryz.params3]at l f;obtain⟨u,aw,d0,ad,S,ar,am,rfl,rfl,j,U⟩:=trodAll_cons l;obtain⟨v,az,d1,af,T,av,rfl,rfl,rfl,k,V⟩:=trodAll_cons U;obtain⟨rfl,rfl,rfl⟩:=trodAll_nil V;obtain rfl:a= #[u,v]:=by cases a;simp_all
 obtain⟨rfl,rfl⟩:=trodVars_none G;have q:=j;have N:∀i∈S,i.block<c.heap.size:=by obtain⟨g,e⟩:=q;exact DataW.trod_lt g _ _ _ e
 obtain⟨w,A,L,rfl,P,W⟩:=zB j (by obtain⟨_,_,_,rfl⟩:=okWide_slice Tryz.underlying22 (f 0 22 u rfl rfl);rfl);have r:=k;have O:∀i∈T,i.block<c.heap.size:=by obtain⟨g,e⟩:=r;exact DataW.trod_lt g _ _ _ e
 obtain⟨Q,x,B,M,rfl,u1,ap,aa,Y,y⟩:=Aiy (f 1 25 v rfl rfl) k;clear m o;have F:=mJ E;refine(eG L w A Q x M B c P W u1 aa Y y F).mono fun ah ab⟨J,d⟩=>?_
 subst J;exact⟨_,rfl,_,_,_,[],_,[],I,trodAll_mk1 (shut_bool Tryz.underlying4 _),(trodAll_cons_mk (Below.trod laidOut (by kernel_rfl) (of_decide_eq_true (by kernel_rfl)) q d N) (trodAll_cons_mk (Below.trod laidOut (by kernel_rfl) (of_decide_eq_true (by kernel_rfl)) r d O) trodAll_mk0)),rfl,d.frame _,fun h=>by cases h⟩
theorem over:Rows.mendAgainRow.holds Tryz.pinned (OpenSpec.ofChange Rows.mendAgainSpec):=
 OpenClaim.holds_of_wide 3 Tryz.f3 rfl rfl rfl rfl rfl rfl rfl ⟨rfl,rfl,rfl,rfl,rfl⟩ rfl rfl rfl rfl rfl (by kernel_rfl) Tryz.func3 closed
  (of_decide_eq_true (by kernel_rfl)) (by unfold Func.isWrapper;first|(rw[if_pos (by decide+kernel)];kernel_rfl)|(rw[if_neg (by decide+kernel)];exact⟨rfl,rfl⟩))
  (fun c d a b _=>lifted c d a b)
theorem proved:Rows.MendAgainCardSaid:=
 Claim7.holds_tied_plain_at .later [] [.data,.data] true _ true over (fun _ h=>by cases h) (by kernel_rfl) (fun _ h=>by cases h) mendAgain_row_tie rfl ⟨rfl,rfl⟩ (by kernel_rfl) rfl
  (fun d e f g=>by
   obtain rfl:d=3:=Option.some.inj ((by kernel_rfl:_=some 3).symm.trans f)|>.symm;obtain rfl:e=Tryz.f3:=(Option.some.inj (Tryz.func3.symm.trans g)).symm;exact⟨by kernel_rfl,fun b c a=>by
    rw[Tryz.params3]at a;rcases b with _|b
    ·obtain rfl:c=22:=by simpa using a.symm
     kernel_rfl
    rcases b with _|b
    ·obtain rfl:c=25:=by simpa using a.symm
     kernel_rfl
    simp at a⟩)
  (by kernel_rfl)
#print axioms proved
end Go.Proofs.YtekhjimghoibfaaGreatDoor.mendAgain
