/- What the law 'LookupJust' uses. No condition. -/
import Derived.Test.YtdljmchhecoakaaGreatKLookupJustB
import Derived.Test.YtdljmchhecoakaaGreatKLookupJustE
import Derived.Test.YtdljmchhecoakaaGreatKLookupJustF
import Derived.Test.YtdljmchhecoakaaGreatKLookupJustH
import Derived.Test.YtdljmchhecoakaaGreatKLookupJustI
import Derived.Test.YtdljmchhecoakaaGreatKLookupJustL
import Derived.Test.YtdljmchhecoakaaGreatKLookupJustM
import Derived.Test.YtdljmchhecoakaaGreatKLookupJustP
import Derived.Test.YtdljmchhecoakaaGreatKLookupJustQ
import Derived.Test.YtdljmchhecoakaaGreatKLookupJustR
namespace Go.Proofs.YtdljmchhecoakaaGreat
set_option linter.defProp false
def agi:=@if_neg
def agj:=@if_pos
def agk:=@List.mem_append_right
def agl:=@List.length_map
def agm:=@List.getElem?_map
def agn:=@Nat.le_trans
def ago:=@List.getD_eq_getElem?_getD
def agp:=@List.nil_append
def agq:=@List.mem_map
def agr:=@List.mem_append_left
def ags:=@List.cons_append
def agt:=@List.append_nil
def agu:=@Nat.zero_le
def agv:=@List.drop_zero
def agw:=@List.drop_succ_cons
def agx:=@List.take_succ_cons
def agy:=@List.take_zero
def agz:=@List.length_filter_le
def agA:=@Option.map_some
def agB:=@List.length_singleton
def agC:=@List.mem_iff_getElem
def agD:=@List.getD_cons_zero
def agE:=@List.getD_cons_succ
def agF:=@Option.getD_some
def agG:=@List.getElem?_eq_some_iff
def agH:=@List.length_append
def agI:=@List.flatten_cons
def agJ:=@List.flatten_nil
def agK:=@List.perm_append_comm
def agL:=@List.flatMap_append
def agM:=@List.append_assoc
def agN:=@List.map_congr_left
def agO:=@Bool.false_eq_true
def agP:=@List.length_take
def agQ:=@List.eq_nil_of_length_eq_zero
open Tryz
set_option linter.unusedVariables false
set_option linter.unusedSimpArgs false
set_option maxRecDepth 4000
def nG(R:ay)(out:List bI×Nat×Int)(u:Value)(H':aP):Prop:=∃vp ps T,H'=[T]/\u=.tuple [.agg [vp,iN out.2.1].toArray,.int .i64 out.2.2].toArray/\RS (λb o=>R b o\/(b,o)∈T) 8 aZ.enc vp ps/\(∀p∈ps,aZ.is (λb o=>R b o\/(b,o)∈T) p)/\ps.map aZ.plain=out.1
theorem z0{W:ByteArray->Bool}{F:ByteArray->ByteArray->Bool}{c:Cf}{num:List Nat}{k:bc}(b:c.right W F=true):(one c num k).nodes.length<=64:=by
 unfold one
 split
 ·simp
 ·rename_i i d
  simp only[ago,agm]
  cases hy:c.all[i]? with
  |none=>simp
  |some y=>
   have a:=(nu b y (aW hy)).2
   unfold iJ at a
   simp only[Bool.or_eq_false_iff,decide_eq_false_iff_not]at a
   simp only[agA,agF]
   omega
theorem z9{c:Cf}{num:List Nat}{sub:bc->List Sub}{k:bc}{N i:Nat}(b:eZ c num sub k N)(h:∀j,j<i->j<(opened c num sub k j).1.length):i<=N:=Nat.not_lt.1 λa=>by have:=h N a;have:=b.1;omega
theorem xC{R:ay}{hb:Nat}{vl:Value}{es:List ee}{b4:Nat}(hV:HV R hb vl es b4){g:Nat}{S:cX}{c7:List RB}{vf vr:Value}{Mf:List (bc×(Value×ax))}{Mr:List (Sub×(Value×ax))}(hS:SV R g S c7 vf vr Mf Mr)
    {L:List bC}(hL:RL S L)(hl:S.rows.length<=1000)(rev:Int)(en:ee)(b5:kh es rev=some en)(num:List Nat)(V:lp isWord dj en.c.plain num)(f2:en.ll.map (·.2)=rows en.c.plain.bg num)(e8:b4<=1000000/\es.length<=1000000)(c2:∀e∈es,e.ll.length<=1000000/\∀q∈e.ll,q.2.length<=1000000)
    (k:bc)(b:Int)(g6:b<=9223372036854775807)(sub:bc->List Sub)(f9:sub=λk=>if scan S rev then(L.filter λy=>y.there rev&&decide (y.t.db=k)).map (·.t.sub)else [])
    (c3:∀i,(∀j,j<i->j<(opened en.c.plain num sub k j).1.length)->(opened en.c.plain num sub k i).1.length+(opened en.c.plain num sub k i).2<=1048576)(N:Nat)(hN:eZ en.c.plain num sub k N):
    Spec prog 34 [pT hb,pT g,.int .u64 rev,.agg [.string k.os,.string k.oi].toArray,.string k.rel,.int .i64 b] R [] (nG R (fO en.c.plain num sub k b (scan S rev) N)):=by
  have d8:((kh es rev).map λe=>e.c.plain).getD ⟨[],[]⟩=en.c.plain:=by rw[b5];rfl
  have b6:((kh es rev).map λe=>e.ll.map (·.2)).getD []=rows en.c.plain.bg num:=by rw[b5];exact f2
  have J:∀out u H',nG R out u H'↔∃A s T,H'=[T]/\u=.tuple [.agg [A,iN out.2.1].toArray,.int .i64 out.2.2].toArray/\RS (λb o=>R b o\/(b,o)∈T) 8 aZ.enc A s/\(∀p∈s,aZ.is (λb o=>R b o\/(b,o)∈T) p)/\s.map aZ.plain=out.1:=λ_ _ _=>Iff.rfl
  have r:fO en.c.plain num sub k b (scan S rev) N=if b<1 then([],0,2)else if scan S rev=false then([],0,12)
    else if(((opened en.c.plain num sub k N).1.length+(opened en.c.plain num sub k N).2:Nat):Int)<=b then((opened en.c.plain num sub k N).1,(opened en.c.plain num sub k N).2,0)else([],0,16):=rfl
  generalize g7:en.c.plain=cp at *
  refine Spec.body func34 rfl results34 ntmps34 rfl ?_
  refine .sr ?_
  refine .cx rfl (λb9=>?_)
  refine .bU (λb3=>?_)
  refine .ag rfl<|.z<|.mo rfl<|.fa rfl<|.lo rfl<|.fa rfl<|.lo rfl<|.mo rfl ?_
  refine .q .cR ?_
  refine .mo rfl ?_
  refine .dh ((At hS (by omega) ⟨k.os,k.oi,k.rel,⟨#[]⟩,⟨#[]⟩,⟨#[]⟩,⟨#[]⟩⟩ rev).weaken da) (λu g4 a=>?_)
  obtain⟨wr,ys,rfl,d7,_⟩:=a
  have i3:=d7.aB
  refine .mo rfl<|.q .extract<|.q .extract<|.ag rfl<|.ag rfl<|.zs<|.block<|.sr<|.mo rfl ?_
  refine .ba ((HV.made hV).weaken da) (λu a=>?_)
  subst a
  refine .q .not<|.mo rfl ?_
  refine .split (t:=36) rfl (λa4=>?_) (λa4=>?_)
  ·simp at a4
  refine .gT a4<|.mo rfl<|.gT a4<|.q .bY<|.q (.aR a4) ?_
  refine .az rfl ?_
  refine .cond rfl (λh1=>?_) λh1=>?_
  ·cases I:scan S rev<;>simp[I]at h1
  refine .sr<|.mo rfl<|.q .lss<|.az rfl ?_
  refine .cond rfl (λh2=>?_) λh2=>?_
  have a1:b<1:=bX h2
  refine .sr ?_
  refine .q .cR ?_
  refine .bP rfl rfl<|.az rfl ?_
  refine .ret (br (aK (bj _ (.two (.fE rfl rfl) (.tmp rfl)) (bz.one [] _) ?_)))
  ·exact(J _ _ _).2 ⟨_,[],_,rfl,by rw[r,agj a1];rfl,RS.jr,λp f=>(by cases f),by rw[r,agj a1];rfl⟩
  have a1:¬b<1:=bF h2
  refine .sr<|.mo rfl<|.q .dZ<|.az rfl ?_
  refine .cond rfl (λh3=>?_) λh3=>?_
  have I:scan S rev=false:=by
    cases I:scan S rev with
    |false=>rfl
    |true=>simp[I]at h3
  refine .sr ?_
  refine .q .cR ?_
  refine .mo rfl<|.bP rfl rfl<|.az rfl ?_
  refine .ret (br (aK (bj _ (.two (.fE rfl rfl) (.tmp rfl)) (bz.one [] _) ?_)))
  ·exact(J _ _ _).2 ⟨_,[],_,rfl,by rw[r,agi a1,agj I,I];rfl,RS.jr,λp f=>(by cases f),by rw[r,agi a1,agj I];rfl⟩
  have I:scan S rev=true:=by
    cases I:scan S rev with
    |true=>rfl
    |false=>simp[I]at h3
  rw[agi a1,agi (by rw[I];simp)]at r
  refine .skip<|aX<|aw<|.sr<|.mo rfl<|.mo rfl ?_
  refine .dh ((hV.at_ rev e8).weaken da) (λu Tc a=>?_)
  obtain⟨U,rfl,Z,v⟩:=a
  rw[d8]at v
  have i0:cC U.enc:=⟨Z.dg⟩
  have h6:One U.vs:=RS.aB Z.ss
  have h7:One U.vc:=RS.aB Z.sc
  refine .mo rfl<|.q .extract<|.q .extract ?_
  refine .bU (λg5=>?_)
  refine .bP rfl rfl<|.ag rfl<|.zs ?_
  refine bx.cZ [(4,_),(9,_),(12,_)] kE.c.c.c (X:=Nat×Nat×Value×ax) (λy=>MS ma kF y.2.2.1 (me cp num) y.2.2.2) (λy E=>(18,.pointer (some ⟨y.1,0,none⟩))::E) (λy=>[XC.iG ⟨U,num,y.2.2.1,g,S,L,rev,b⟩ y.1 (.map (some y.2.1)) (sZ) 0,[(y.2.1,.map #[] 0)],[],[],Tc,y.2.2.2,bl b3 [sZ,.int .i64 0] 81,bl b9 [.string k.os,.string k.oi] 44]) ?_ ?_
  refine .cS [] mixed ?_
  refine .tO 0 rfl (.aT rfl)<|.tO 1 rfl (.aT rfl)<|.tO 2 rfl .move<|.tO 3 rfl .move<|.tO 6 rfl .move<|.tO 7 rfl .move<|.tO 9 rfl .move ?_
  refine RA.jH 4 8 rfl rfl (by kernel_rfl) rfl ?_ ?_
  refine .dh ((hV.numbers rev c2).weaken da) (λu Tn a=>?_)
  obtain⟨ll,a0,a2⟩:=a
  rw[b6]at a2
  have g0:=a0.rs.aB
  refine .nil (Next.sub ?_)
  refine RA.jH 5 8 rfl rfl (by kernel_rfl) rfl ?_ ?_
  refine .dh ((uT U (λb o=>(b,o)∈Tc\/(b,o)∈Tn) (Z.mono λb o hb=>.inl hb) (by rw[v];exact V.dR) _ ll num (a0.mono λb o hb=>.inr hb) (by rw[v];exact a2) (by rw[v];exact V.len)).weaken λb o hb=>.inr (by rcases hb with hb|hb<;>simp[hb])) (λu w a=>?_)
  obtain⟨mn,rfl⟩:∃m,u=.map (some m):=by obtain⟨b,_,_,h,_⟩:=a;exact⟨b,h⟩
  refine .nil (Next.sub ?_)
  refine .sT 8 rfl ?_
  refine .makeMap (λB=>?_)
  refine .nil (Next.sub ?_)
  refine .tO 10 rfl .cR ?_
  refine .sT 11 rfl ?_
  refine .cx rfl (λC=>?_)
  refine .nil (Next.sub ?_)
  refine .tO 12 rfl .assign ?_
  refine RA.nil (by kernel_rfl) ?_
  ·first
      |exact aG (C,B,_,w) (by rw[<-v];exact a) ((((kE.d rfl).d rfl).d rfl).d rfl) (bz.iK.trans (aQ [2,2,0,0,3,0,3,3]))
      |exact aG (C,B,_,w) (by rw[<-v];exact a) ((((kE.d rfl).d rfl).d rfl).d rfl) (bz.iK.trans (aQ [2,3,0,0,3,0,3,3]))
      |exact aG (C,B,_,w) (by rw[<-v];exact a) ((((kE.d rfl).d rfl).d rfl).d rfl) (bz.iK.trans (aQ [2,4,0,0,3,0,3,3]))
  refine .makeMap (λB=>?_)
  refine .nil (Next.sub ?_)
  refine .sT 5 rfl ?_
  refine .dh ((uT U (λb o=>(b,o)∈Tc\/(b,o)∈Tn) (Z.mono λb o hb=>.inl hb) (by rw[v];exact V.dR) _ ll num (a0.mono λb o hb=>.inr hb) (by rw[v];exact a2) (by rw[v];exact V.len)).weaken λb o hb=>.inr (by rcases hb with hb|hb<;>simp[hb])) (λu w a=>?_)
  obtain⟨mn,rfl⟩:∃m,u=.map (some m):=by obtain⟨b,_,_,h,_⟩:=a;exact⟨b,h⟩
  refine .nil (Next.sub ?_)
  refine .tO 10 rfl .cR ?_
  refine .sT 11 rfl ?_
  refine .cx rfl (λC=>?_)
  refine .nil (Next.sub ?_)
  refine .tO 12 rfl .assign ?_
  refine RA.nil (by kernel_rfl) ?_
  ·first
      |exact aG (C,B,_,w) (by rw[<-v];exact a) ((((kE.d rfl).d rfl).d rfl).d rfl) (bz.iK.trans (aQ [2,2,0,0,3,0,3,3]))
      |exact aG (C,B,_,w) (by rw[<-v];exact a) ((((kE.d rfl).d rfl).d rfl).d rfl) (bz.iK.trans (aQ [2,3,0,0,3,0,3,3]))
      |exact aG (C,B,_,w) (by rw[<-v];exact a) ((((kE.d rfl).d rfl).d rfl).d rfl) (bz.iK.trans (aQ [2,4,0,0,3,0,3,3]))
  refine .makeMap (λB=>?_)
  refine .nil (Next.sub ?_)
  refine .sT 4 rfl ?_
  refine .dh ((hV.numbers rev c2).weaken da) (λu Tn a=>?_)
  obtain⟨ll,a0,a2⟩:=a
  rw[b6]at a2
  have g0:=a0.rs.aB
  refine .nil (Next.sub ?_)
  refine .sT 5 rfl ?_
  refine .dh ((uT U (λb o=>(b,o)∈Tc\/(b,o)∈Tn) (Z.mono λb o hb=>.inl hb) (by rw[v];exact V.dR) _ ll num (a0.mono λb o hb=>.inr hb) (by rw[v];exact a2) (by rw[v];exact V.len)).weaken λb o hb=>.inr (by rcases hb with hb|hb<;>simp[hb])) (λu w a=>?_)
  obtain⟨mn,rfl⟩:∃m,u=.map (some m):=by obtain⟨b,_,_,h,_⟩:=a;exact⟨b,h⟩
  refine .nil (Next.sub ?_)
  refine .tO 10 rfl .cR ?_
  refine .sT 11 rfl ?_
  refine .cx rfl (λC=>?_)
  refine .nil (Next.sub ?_)
  refine .tO 12 rfl .assign ?_
  refine RA.nil (by kernel_rfl) ?_
  ·first
      |exact aG (C,B,_,w) (by rw[<-v];exact a) ((((kE.d rfl).d rfl).d rfl).d rfl) (bz.iK.trans (aQ [2,2,0,0,3,0,3,3]))
      |exact aG (C,B,_,w) (by rw[<-v];exact a) ((((kE.d rfl).d rfl).d rfl).d rfl) (bz.iK.trans (aQ [2,3,0,0,3,0,3,3]))
      |exact aG (C,B,_,w) (by rw[<-v];exact a) ((((kE.d rfl).d rfl).d rfl).d rfl) (bz.iK.trans (aQ [2,4,0,0,3,0,3,3]))
  intro y hy
  obtain⟨xb,Q,vn,w⟩:=y
  simp only at hy⊢
  obtain⟨x,a3⟩:∃x:XC,x=⟨U,num,vn,g,S,L,rev,b⟩:=⟨_,rfl⟩
  have i2:=hy.one
  have c6:x.sub=sub:=by rw[f9,a3];rfl
  have a7:x.c.plain=cp:=by rw[a3];exact v
  have a8:x.num=num:=by rw[a3]
  have O:x.b=b:=by rw[a3]
  obtain⟨Rc,H⟩:∃Rc:ay,Rc=λb o=>R b o\/(b,o)∈Tc\/(b,o)∈w:=⟨_,rfl⟩
  have a5:x.ok Rc:=by
    rw[a3,H]
    exact⟨Z.mono λb o hb=>.inr (.inl hb),by simp only;rw[v];exact hy.rm λp f=>.inr (.inr f),by simp only;rw[v];exact V.len,⟨c7,vf,vr,Mf,Mr,hS.mono λb o hb=>.inl hb⟩,hL,hl⟩
  have f7:=Aj x Rc a5 xb
  have f4:=λR h=>OB x Rc R h a5 xb
  have b2:=λR h=>OJ x R h xb
  rw[<-a3]
  refine aw<|.sr<|.mo rfl<|.q (.aT rfl)<|.mo rfl ?_
  refine .call [0,0,0] ((f7 [] 0 (.map (some Q)) (sZ) [(Q,.map #[] 0)] [] ⟨[],MS.nil,λk=>rfl⟩ OS.nil (by simp) k).weaken λb o hb=>by
    rw[H]at hb
    rcases hb with hb|hb|hb
    ·exact .inl hb
    ·exact .inr (by simp[rest,bM,hb])
    ·exact .inr (by simp[rest,bM,hb])) (λu H' a=>?_)
  obtain⟨c8,g2,c9,d1,rfl,rfl,d9,d3,d5,l1,c1,f5⟩:=a
  rw[agp]at c1
  subst c1
  conv=>arg 8;simp only[rest,bM,ags,agp]
  have h0:c8.map aZ.plain=(opened cp num sub k 0).1:=by rw[d9,a7,a8];rfl
  refine .zs<|.sr<|.az rfl<|.block ?_
  refine .cF [(12,_),(18,_)] (X:=Nat×List aZ×Value×ax×ax×ax) (λy=>(∀j,j<y.1->j<(opened cp num sub k j).1.length/\(((opened cp num sub k j).1.length+(opened cp num sub k j).2:Nat):Int)<=b)/\y.2.1.map aZ.plain=(opened cp num sub k y.1).1/\iQ y.2.1 (.map (some Q)) y.2.2.2.1/\OS 95 8 aZ.enc y.2.2.1 y.2.1 y.2.2.2.2.1/\∀q∈y.2.1,q.is λb o=>Rc b o\/(b,o)∈y.2.2.2.2.2) (λy E=>(19,iN y.1)::E) (G:=[Tc,w,bl b3 [sZ,.int .i64 0] 81,bl b9 [.string k.os,.string k.oi] 44]) (λy G=>x.iG xb (.map (some Q)) y.2.2.1 (opened cp num sub k y.1).2::y.2.2.2.1::y.2.2.2.2.1::y.2.2.2.2.2::G) (λy=>N+1-y.1) (0,c8,g2,c9,d1,[]) ⟨λj hj=>(by omega),h0,d3,d5,λq hq=>(f5 q hq).mono λb o hb=>.inl hb⟩ kE.c.c.c rH ?_
  rintro⟨i,s,A,Ta,To,Tp⟩ ⟨hj,M,hA,F,K⟩
  simp only at hj M hA F K⊢
  have g1:=F.aB
  have i1:cC (List.take 2 (List.drop 6 (x.cells (.map (some Q)) A (opened cp num sub k i).2))):=⟨λu a=>by
    simp[XC.cells]at a
    rcases a with rfl|rfl
    ·exact g1.h
    ·rfl⟩
  have a9:∀j,j<i->j<(opened cp num sub k j).1.length:=λj Y=>(hj j Y).1
  have b7:=z9 hN a9
  have g8:=c3 i a9
  have f6:s.length=(opened cp num sub k i).1.length:=by rw[<-M,agl]
  refine .seq<|.sr<|.mo rfl<|.mo rfl<|.nc rfl<|.fa rfl<|.fa rfl<|.lo rfl<|.q (.ep F) ?_
  refine .q .lss<|.mo rfl ?_
  refine .split (t:=80) rfl (λD=>?_) (λD=>?_)
  have b8:i<s.length:=by have:=bX D;omega
  refine .gT D<|.mo rfl<|.gT D ?_
  refine .ba (b2 _ (a5.mono λb o hb=>by
    rw[H]at hb
    rcases hb with hb|hb|hb
    ·exact .inl hb
    ·exact .inr (by simp[hb])
    ·exact .inr (by simp[hb])) (.map (some Q)) A (opened cp num sub k i).2 s (pc:=PC.of (E:=190) (fr:=(0,0)) (.inr (by simp))) F.rx (by omega) (by rw[O];omega)) (λu a=>?_)
  subst a
  refine .gT D<|.q .not<|.q (.aU D) ?_
  refine .zn ?_
  refine .cond rfl (λh4=>?_) λh4=>?_
  have f0:(((opened cp num sub k i).1.length+(opened cp num sub k i).2:Nat):Int)<=b:=by
    have:¬x.b<(s.length+(opened cp num sub k i).2:Nat):=by simpa using h4
    rw[O]at this;omega
  obtain⟨p,f⟩:=bW b8
  have b0:p.plain=one x.c.plain x.num p.k:=by
    rw[a7,a8]
    exact z8 (c:=cp) (num:=num) (sub:=sub) (k:=k) i i p.plain (Nat.le_refl _) (by rw[<-M,agm,f];rfl)
  have f1:p.nodes.length<=1000000:=by
    have Y:=z0 (num:=num) (k:=p.k) V.right
    rw[a7,a8]at b0
    rw[<-b0]at Y
    exact agn Y (by omega)
  have c0:∀j,j<i+1->j<(opened cp num sub k j).1.length/\(((opened cp num sub k j).1.length+(opened cp num sub k j).2:Nat):Int)<=b:=λj Y=>by
    rcases Nat.lt_or_ge j i with h8|h8
    ·exact hj j h8
    ·obtain rfl:j=i:=by omega
     exact⟨by omega,f0⟩
  have g9:=c3 (i+1) λj Y=>(c0 j Y).1
  have c5:=OE (c:=cp) (num:=num) (sub:=sub) (k:=k) i
  have c4:(eB cp num sub (s.map aZ.plain) i).1=(opened cp num sub k (i+1)).1:=by rw[c5,M]
  have f3:(opened cp num sub k i).2+(eB cp num sub (s.map aZ.plain) i).2=(opened cp num sub k (i+1)).2:=by rw[c5,M]
  refine .kn<|.seq<|.block<|.region<|.mo rfl<|.mo rfl ?_
  refine .call [0,0,0] (f4 _ (λb o hb=>by
    rw[H]at hb
    rcases hb with hb|hb|hb
    ·exact .inl hb
    ·exact .inr (by simp[rest,bM,hb])
    ·exact .inr (by simp[rest,bM,hb])) s (opened cp num sub k i).2 (.map (some Q)) A Ta To hA F i p f ((K p (aW f)).n.mono λb o hb=>by
    rw[H]at hb
    rcases hb with(hb|hb|hb)|hb
    ·exact .inl hb
    ·exact .inr (by simp[rest,bM,hb])
    ·exact .inr (by simp[rest,bM,hb])
    ·exact .inr (by simp[rest,bM,hb])) b0 f1 (by rw[a7,a8,c6,c4];omega) (by omega)) (λu H' a=>?_)
  rw[ti,a7,a8,c6,c4,f3]at a
  obtain⟨g3,d0,d2,TL,Tr,Tu,l,q,rfl,e9,e0,d4,d6,f8⟩:=a
  conv=>arg 8;simp only[rest,bM,ags,agp]
  refine .nil<|aX<|aw<|.region<|.mo rfl ?_
  refine .ia (i+1) .add ?_
  refine .ag rfl<|.nil ?_
  ·exact bm (i+1,(s++l).set i q,g3,d0,d2,TL++(Tr++(Tu++Tp))) ⟨c0,e0,d4,d6,λz hz=>by
      rcases List.mem_or_eq_of_mem_set hz with hz|rfl
      ·rcases List.mem_append.1 hz with hz|hz
       ·exact(K z hz).mono λb o hb=>hb.imp id λhb=>agk _ (agk _ (agk _ hb))
       ·exact(e9 z hz).mono λb o hb=>.inl hb
      ·rcases f8 with rfl|⟨e1,e2,e3,e4,e5⟩
       ·exact(K _ (aW f)).mono λb o hb=>hb.imp id λhb=>agk _ (agk _ (agk _ hb))
       ·refine⟨?_,e3.mono λb o hb=>.inr (agk _ (agk _ (agr _ hb))),e4.mono λb o hb=>.inr (agr _ hb),λy hy=>(e5 y hy).mono λb o hb=>.inr (agk _ (agr _ hb))⟩
        rw[e1,e2]
        exact(K p (aW f)).n.mono λb o hb=>hb.imp id λhb=>agk _ (agk _ (agk _ hb))⟩ (by simp only;omega) kE.c.c.c (bz.eS (by simp[dl]))
  refine .exit<|bo<|bs<|bp<|aw<|.seq<|.sr<|.mo rfl ?_
  refine .ba (b2 _ (a5.mono λb o hb=>by
    rw[H]at hb
    rcases hb with hb|hb|hb
    ·exact .inl hb
    ·exact .inr (by simp[hb])
    ·exact .inr (by simp[hb])) (.map (some Q)) A (opened cp num sub k i).2 s (pc:=PC.of (E:=190) (fr:=(0,0)) (.inr (by simp))) F.rx (by omega) (by rw[O];omega)) (λu a=>?_)
  subst a
  refine .zn ?_
  refine .cond rfl (λW=>?_) λW=>?_
  have a6:b<(((opened cp num sub k i).1.length+(opened cp num sub k i).2:Nat):Int):=by
    have:x.b<(s.length+(opened cp num sub k i).2:Nat):=by simpa using W
    rw[O]at this;omega
  obtain⟨e6,e7⟩:=sy (c:=cp) (num:=num) (sub:=sub) (k:=k) b7
  rw[agi (by omega)]at r
  refine .sr ?_
  refine .q .cR ?_
  refine .bP rfl rfl<|.az rfl ?_
  refine .ret (aK (bj _ (.two (.fE rfl rfl) (.tmp rfl)) (bz.one [2,2,2,2] _) ?_))
  ·first
      |exact(J _ _ _).2 ⟨_,[],_,rfl,by rw[r];rfl,RS.jr,λp f=>(by cases f),by rw[r];rfl⟩
      |exact(J _ _ _).2 ⟨A,s,_,rfl,by rw[r];rfl,F.rs λp f=>.inr (by simp[take,bM,f]),λp f=>(K p f).mono λb o hb=>(by
          rw[H]at hb
          rcases hb with(hb|hb|hb)|hb
          ·exact .inl hb
          ·exact .inr (by simp[take,bM,hb])
          ·exact .inr (by simp[take,bM,hb])
          ·exact .inr (by simp[take,bM,hb])),by rw[r];exact M⟩
  have a6:(((opened cp num sub k i).1.length+(opened cp num sub k i).2:Nat):Int)<=b:=by
    have:¬x.b<(s.length+(opened cp num sub k i).2:Nat):=by simpa using W
    rw[O]at this;omega
  have b1:i=N:=by
    refine eZ.dR (c:=cp) (num:=num) (sub:=sub) (k:=k) ⟨?_,a9⟩ hN
    (exfalso
     have:x.b<(s.length+(opened cp num sub k i).2:Nat):=by simpa using h4
     rw[O]at this
     omega)
  subst b1
  rw[agj a6]at r
  refine .kn<|.sr<|.mo rfl<|.nc rfl<|.fa rfl<|.q (.loadT rfl) ?_
  refine .bP rfl rfl<|.az rfl ?_
  refine .ret (bj _ (.two (.fE rfl rfl) (.tmp rfl)) (bz.one [2,2,2,2] _) ?_)
  ·first
      |exact(J _ _ _).2 ⟨_,[],_,rfl,by rw[r];rfl,RS.jr,λp f=>(by cases f),by rw[r];rfl⟩
      |exact(J _ _ _).2 ⟨A,s,_,rfl,by rw[r];rfl,F.rs λp f=>.inr (by simp[take,bM,f]),λp f=>(K p f).mono λb o hb=>(by
          rw[H]at hb
          rcases hb with(hb|hb|hb)|hb
          ·exact .inl hb
          ·exact .inr (by simp[take,bM,hb])
          ·exact .inr (by simp[take,bM,hb])
          ·exact .inr (by simp[take,bM,hb])),by rw[r];exact M⟩
  have b8:¬i<s.length:=by have:=bF D;omega
  refine .gF D<|.gF D<|.gF D<|.q (.aR D) ?_
  refine .zn<|.cU<|.exit<|bo<|bs<|bp<|aw<|.seq<|.sr<|.mo rfl ?_
  refine .ba (b2 _ (a5.mono λb o hb=>by
    rw[H]at hb
    rcases hb with hb|hb|hb
    ·exact .inl hb
    ·exact .inr (by simp[hb])
    ·exact .inr (by simp[hb])) (.map (some Q)) A (opened cp num sub k i).2 s (pc:=PC.of (E:=190) (fr:=(0,0)) (.inr (by simp))) F.rx (by omega) (by rw[O];omega)) (λu a=>?_)
  subst a
  refine .zn ?_
  refine .cond rfl (λW=>?_) λW=>?_
  have a6:b<(((opened cp num sub k i).1.length+(opened cp num sub k i).2:Nat):Int):=by
    have:x.b<(s.length+(opened cp num sub k i).2:Nat):=by simpa using W
    rw[O]at this;omega
  obtain⟨e6,e7⟩:=sy (c:=cp) (num:=num) (sub:=sub) (k:=k) b7
  rw[agi (by omega)]at r
  refine .sr ?_
  refine .q .cR ?_
  refine .bP rfl rfl<|.az rfl ?_
  refine .ret (aK (bj _ (.two (.fE rfl rfl) (.tmp rfl)) (bz.one [2,2,2,2] _) ?_))
  ·first
      |exact(J _ _ _).2 ⟨_,[],_,rfl,by rw[r];rfl,RS.jr,λp f=>(by cases f),by rw[r];rfl⟩
      |exact(J _ _ _).2 ⟨A,s,_,rfl,by rw[r];rfl,F.rs λp f=>.inr (by simp[take,bM,f]),λp f=>(K p f).mono λb o hb=>(by
          rw[H]at hb
          rcases hb with(hb|hb|hb)|hb
          ·exact .inl hb
          ·exact .inr (by simp[take,bM,hb])
          ·exact .inr (by simp[take,bM,hb])
          ·exact .inr (by simp[take,bM,hb])),by rw[r];exact M⟩
  have a6:(((opened cp num sub k i).1.length+(opened cp num sub k i).2:Nat):Int)<=b:=by
    have:¬x.b<(s.length+(opened cp num sub k i).2:Nat):=by simpa using W
    rw[O]at this;omega
  have b1:i=N:=by
    refine eZ.dR (c:=cp) (num:=num) (sub:=sub) (k:=k) ⟨?_,a9⟩ hN
    (rw[<-f6];omega)
  subst b1
  rw[agj a6]at r
  refine .kn<|.sr<|.mo rfl<|.nc rfl<|.fa rfl<|.q (.loadT rfl) ?_
  refine .bP rfl rfl<|.az rfl ?_
  refine .ret (bj _ (.two (.fE rfl rfl) (.tmp rfl)) (bz.one [2,2,2,2] _) ?_)
  ·first
      |exact(J _ _ _).2 ⟨_,[],_,rfl,by rw[r];rfl,RS.jr,λp f=>(by cases f),by rw[r];rfl⟩
      |exact(J _ _ _).2 ⟨A,s,_,rfl,by rw[r];rfl,F.rs λp f=>.inr (by simp[take,bM,f]),λp f=>(K p f).mono λb o hb=>(by
          rw[H]at hb
          rcases hb with(hb|hb|hb)|hb
          ·exact .inl hb
          ·exact .inr (by simp[take,bM,hb])
          ·exact .inr (by simp[take,bM,hb])
          ·exact .inr (by simp[take,bM,hb])),by rw[r];exact M⟩
def dA.enc(x:dA):List Value:=[iN x.1,iN x.2]
instance dA.one(x:dA):cC (dA.enc x):=⟨by simp[dA.enc,aB]⟩
abbrev ja(sb:Nat)(vp:Value)(e:Nat)(us:ByteArray)(vv vb vw vq:Value):ax:=(bl sb [vp,iN e,.string us,vv,vb,vw,vq] 206)
abbrev qK(sb:Nat):Value:=jh (pT sb) 6
def QI(sb:Nat)(vp:Value)(e:Nat)(us:ByteArray)(vv vb vw:Value)(L:List dA)(T:ax):Prop:=∃vq Tq,T=ja sb vp e us vv vb vw vq++Tq/\OS 280 2 dA.enc vq L Tq/\L.length<=1000000000
theorem A7(v:Value)(L:List dA)(R:ay)(h:RS R 2 dA.enc v L):Spec prog 92 [v] R [] λu H'=>u=.int .i64 L.length/\H'=[]:=by
 refine Spec.body func92 rfl results92 ntmps92 rfl<|.sr<|.ag rfl<|.z<|.mo rfl<|.q (.bO h)<|.az rfl<|.ret (aN rfl ?_)
 ·exact⟨rfl,rfl⟩
theorem QC(v:Value)(L:List dA)(R:ay)(h:RS R 2 dA.enc v L)(i k:Nat)(x y:dA)(f:L[i]? =some x)(g:L[k]? =some y):Spec prog 297 [v,.int .i64 i,.int .i64 k] R [] λu H'=>u=.bool (l9 x y)/\H'=[]:=by
 have e:l9 x y=(decide (x.1<y.1)||(decide (x.1=y.1)&&decide (x.2<y.2))):=rfl
 obtain⟨a,b⟩:=x
 obtain⟨c,d⟩:=y
 simp only at e
 generalize l9 (a,b) (c,d)=r at *
 refine Spec.body func297 rfl results297 ntmps297 rfl<|.sr<|.ag rfl<|.zs<|.seq<|.gd mixed (by kernel_rfl)<|.mo rfl<|.mo rfl ?_
 refine .bG i h f (λs=>?_)
 refine .fa rfl<|.lo rfl<|.mo rfl<|.mo rfl ?_
 refine .bG k h g (λl=>?_)
 refine .fa rfl<|.lo rfl<|.q .dZ<|.zn<|.cond rfl (λj=>?_) λj=>?_
 refine .seq<|.gd mixed (by kernel_rfl)<|.mo rfl<|.mo rfl ?_
 refine .bG i h f (λm=>?_)
 refine .fa rfl<|.lo rfl<|.mo rfl<|.mo rfl ?_
 refine .bG k h g (λn=>?_)
 refine .fa rfl<|.lo rfl<|.q .lss<|.az rfl<|.ret (aK (aN rfl ?_))
 ·refine⟨congrArg _ ?_,rfl⟩
  rw[e]
  grind
 refine .kn<|.seq<|.gd mixed (by kernel_rfl)<|.mo rfl<|.mo rfl ?_
 refine .bG i h f (λo=>?_)
 refine .fa rfl<|.lo rfl<|.mo rfl<|.mo rfl ?_
 refine .bG k h g (λp=>?_)
 refine .fa rfl<|.lo rfl<|.q .lss<|.az rfl<|.ret (aN rfl ?_)
 ·refine⟨congrArg _ ?_,rfl⟩
  rw[e]
  grind
theorem QL(v:Value)(L:List dA)(T:ax)(R:ay)(a:OS 280 2 dA.enc v L T)(i k:Nat)(e:i<L.length)(f:k<L.length):Spec prog 298 [v,.int .i64 i,.int .i64 k] R [T] λ_ H'=>∃T',H'=[T']/\OS 280 2 dA.enc v (cV L i k) T':=by
 obtain⟨x,b⟩:=bW e
 obtain⟨y,c⟩:=bW f
 refine Spec.body func298 rfl results298 ntmps298 rfl<|.cS [13,15] mixed<|.tO 0 rfl .move<|.tO 1 rfl .move<|.tK 2 rfl .move<|.tK 3 rfl .move<|.tO 4 rfl .move<|.tO 5 rfl .move ?_
 refine RA.aL 6 rfl (k) a c rfl rfl rfl (by kernel_rfl) (λm=>?_)
 refine .tO 7 rfl (.aT rfl)<|.tO 8 rfl .move<|.tO 9 rfl .move ?_
 refine RA.aL 10 rfl (i) a b rfl rfl rfl (by kernel_rfl) (λn=>?_)
 refine .tO 11 rfl (.aT rfl) ?_
 refine RA.aL 12 rfl (i) a b rfl rfl rfl (by kernel_rfl) (λo=>?_)
 refine .sT 13 rfl<|.eL (i) a b y (λj g=>?_) (a.one _ (aW c))
 refine .nil (Next.mod rfl ?_)
 refine RA.aL 14 rfl (k) a c rfl rfl rfl (by kernel_rfl) (λp=>?_)
 refine .sT 15 rfl ?_
 obtain⟨q,h⟩:∃u,(L.set (i) y)[k]? =some u:=⟨_,aV (by rw[List.length_set];exact(agG.1 c).1)⟩
 refine .eL (k) g h x (λl d=>?_) (a.one _ (aW b))
 rw[<-eM b c]at d
 refine .nil<|Next.mod rfl<|RA.nil (by kernel_rfl)<|fS _ .none rH ?_
 ·exact⟨_,rfl,d⟩
section
variable(sb:Nat)(vp:Value)(e:Nat)(us:ByteArray)(vv vb vw:Value)
theorem QJ(L:List dA)(T:ax)(h:QI sb vp e us vv vb vw L T)(x:dA)(j:L.length<1000000000)(R:ay):
  Spec prog 300 [qK sb,.iface 280 (.agg (dA.enc x).toArray)] R [T] λv H'=>∃T',H'=[T']/\QI sb vp e us vv vb vw (L++[x]) T':=by
 obtain⟨g,d,rfl,f,_⟩:=h
 refine Spec.hB (H':=[ja sb vp e us vv vb vw g,d]) (by simp) ?_
 refine Spec.body func300 rfl results300 ntmps300 rfl<|.cS [7,9] mixed<|.tK 0 rfl .move<|.tO 1 rfl .move<|.tO 2 rfl (.nilCheck rfl)<|.tO 3 rfl (.cm rfl)<|.tO 4 rfl .move<|.tO 5 rfl (.wX (ut:=⟨underlying280⟩))<|.sT 6 rfl ?_
 refine .dY (λi=>?_)
 refine .nil<|Next.sub<|.sT 7 rfl<|.append f (RS.lits (xs:=[x]) rfl (by simp[dA.enc]) (by simp[dA.enc,aB])) (by simp;omega) (λc a b=>?_)
 have k:=b.aB
 refine .nil<|Next.mod rfl<|.tK 8 rfl (.lG rfl)<|.sT 9 rfl<|.dz rfl rfl<|.nil<|Next.mod rfl<|RA.nil (by kernel_rfl)<|fS _ .none ((aQ [1,1]).trans (bz.eS (H':=[ja sb vp e us vv vb vw c++a]) (by simp[take,bM,dl]))) ?_
 ·exact⟨_,rfl,c,a,rfl,b,by simp;omega⟩
theorem QH(L:List dA)(x:dA)(T:ax)(h:QI sb vp e us vv vb vw (L++[x]) T)(R:ay):
  Spec prog 299 [qK sb] R [T] λv H'=>∃T',H'=[T']/\v=.iface 280 (.agg (dA.enc x).toArray)/\QI sb vp e us vv vb vw L T':=by
 obtain⟨g,b,rfl,a,f⟩:=h
 simp only[agH,agB]at f
 refine Spec.hB (H':=[ja sb vp e us vv vb vw g,b]) (by simp) ?_
 refine Spec.body func299 rfl results299 ntmps299 rfl<|.sr<|.ag rfl<|.z<|.mo rfl<|.nc rfl<|.lo rfl<|.ag rfl<|.z<|.mo rfl<|.mo rfl<|.q (.ep a)<|.q (.i64 ((L.length:Nat):Int) .sub ⟨by simp,by omega,by omega⟩) ?_
 refine .aL L.length a (z:=x) (by simp) (λk=>?_)
 refine .q (.aT rfl) ?_
 refine .bU (λi=>?_)
 refine .bP rfl rfl<|.z<|.mo rfl<|.mo rfl<|.mo rfl<|.q (.ep a)<|.q (.i64 ((L.length:Nat):Int) .sub ⟨by simp,by omega,by omega⟩)<|.qS 0 L.length a rfl ⟨_,rfl⟩ (by omega) (by simp) (λd c=>?_)
 have j:=c.aB
 refine .nc rfl<|.dz rfl rfl<|.z<|.q (.aT rfl)<|.q (.makeInterface (ut:=⟨underlying280⟩))<|.az rfl<|.ret (bj _ (.one (.tmp rfl)) ((aQ [1,1]).trans (bz.eS (H':=[ja sb vp e us vv vb vw d++b]) (by simp[take,bM,dl]))) ?_)
 ·exact⟨_,rfl,rfl,d,b,rfl,by simpa using c,by omega⟩
theorem qT:∀w,(typeInfo 282).run prog w=.ok t282 w:=typeInfo282
theorem Ao(R:ay):pV prog R 282 (qK sb) l9 (QI sb vp e us vv vb vw) where
 ly L T h:=by obtain⟨a,b,rfl,d,g⟩:=h;exact g
 len L T h:=by
  obtain⟨a,b,rfl,d,g⟩:=h
  have j:RS (Rx R [ja sb vp e us vv vb vw a++b]) 2 dA.enc a L:=d.rs λp c=>.inr (by simp[c])
  have c:PC (Rx R [ja sb vp e us vv vb vw a++b]) (pT sb) [vp,iN e,.string us,vv,vb,vw,a]:=PC.of (E:=206) (fr:=(0,0)) (.inr (by simp))
  refine(hG.ig (r:=a) (f:=92) (jx.val qT (by kernel_rfl) inferInstance (by kernel_rfl) inferInstance (c.add 6)) (A7 a L _ j)).mono λu n l=>?_
  obtain⟨rfl,rfl⟩:=l
  exact⟨rfl,a,b,rfl,d,g⟩
 less L T i k x y h hx hy:=by
  obtain⟨a,b,rfl,d,g⟩:=h
  have j:RS (Rx R [ja sb vp e us vv vb vw a++b]) 2 dA.enc a L:=d.rs λp c=>.inr (by simp[c])
  have c:PC (Rx R [ja sb vp e us vv vb vw a++b]) (pT sb) [vp,iN e,.string us,vv,vb,vw,a]:=PC.of (E:=206) (fr:=(0,0)) (.inr (by simp))
  refine(hG.ig (r:=a) (f:=297) (jx.val qT (by kernel_rfl) inferInstance (by kernel_rfl) inferInstance (c.add 6)) (QC a L _ j i k x y hx hy)).mono λu n l=>?_
  obtain⟨rfl,rfl⟩:=l
  exact⟨rfl,a,b,rfl,d,g⟩
 swap L T i k h hi hk:=by
  obtain⟨a,b,rfl,d,g⟩:=h
  have c:PC (Rx R [ja sb vp e us vv vb vw a++b]) (pT sb) [vp,iN e,.string us,vv,vb,vw,a]:=PC.of (E:=206) (fr:=(0,0)) (.inr (by simp))
  refine⟨298,a,jx.val qT (by kernel_rfl) inferInstance (by kernel_rfl) inferInstance (c.add 6),inferInstance,?_⟩
  refine Spec.hB (H':=[ja sb vp e us vv vb vw a,b]) (by simp)<|Spec.flat ((Spec.qq [1] (QL a L b _ d i k hi hk)).mono λv H' q=>?_)
  obtain⟨s,rfl,m,rfl,o⟩:=q
  refine⟨_,ja sb vp e us vv vb vw a++m,rfl,?_,_,rfl,a,m,rfl,o,by rw[mh];exact g⟩
  simp only[rest,bM,List.flatten_append,agI,agJ,agt]
  exact agK
theorem O5(L:List dA)(T:ax)(h:QI sb vp e us vv vb vw L T)(x:dA)(hl:L.length<1000000000)(R:ay):hG Tryz.prog 282 (qK sb) "Push" [.iface 280 (.agg (dA.enc x).toArray)] R T fun _ T'=>QI sb vp e us vv vb vw (L++[x]) T':=
 ⟨300,_,jx.ptr qT (by kernel_rfl) inferInstance (by kernel_rfl),inferInstance,QJ sb vp e us vv vb vw L T h x hl R⟩
theorem O4(L:List dA)(x:dA)(T:ax)(h:QI sb vp e us vv vb vw (L++[x]) T)(R:ay):hG Tryz.prog 282 (qK sb) "Pop" [] R T fun v T'=>v=.iface 280 (.agg (dA.enc x).toArray)∧QI sb vp e us vv vb vw L T':=
 ⟨299,_,jx.ptr qT (by kernel_rfl) inferInstance (by kernel_rfl),inferInstance,QH sb vp e us vv vb vw L x T h R⟩
end
def dT(b:Bool):List Value:=[.bool b]
structure QW(ps:List bI)(q:List Bool)(L:List dA):Prop where
 p:L.Perm (items ps q)
 h:fz l9 L L.length
section
variable(sb:Nat)(vp:Value)(e:Nat)(us:ByteArray)(vv vb vw:Value)
theorem A8(L:List dA)(T k:ax)(h:QI sb vp e us vv vb vw L T)(ps:List aZ)(R:ay)(B:RS R 8 aZ.enc vp ps)(A:∀p∈ps,∀u∈p.enc,aB u=true)(q:List Bool)(d:OS 4 1 dT vw q k)(M:q.length=ps.length)(a:QW (ps.map aZ.plain) q L)(i:Nat)(z:i<ps.length)(J:ps.length<1000000000)
  [O:One vp] [Q:One vv] [N:One vb] [S:One vw]:Spec prog 95 [pT sb,.int .i64 i] R [T,k] λ_ H'=>∃T' Tw' L',H'=[T',Tw']/\QI sb vp e us vv vb vw L' T'/\OS 4 1 dT vw (q.set i true) Tw'/\QW (ps.map aZ.plain) (q.set i true) L':=by
 have l:=h
 obtain⟨o,r,rfl,H,I⟩:=h
 have a0:PS (ja sb vp e us vv vb vw o++r) (pT sb) [vp,iN e,.string us,vv,vb,vw,o]:=PS.of (E:=206) (fr:=(0,0)) (by simp)
 obtain⟨b,c⟩:∃b,q[i]? =some b:=⟨_,aV (by omega)⟩
 obtain⟨p,g⟩:=bW z
 have K:cC p.enc:=⟨A p (aW g)⟩
 have j:q.getD i false=b:=by rw[ago,c];rfl
 have m:fQ (ps.map aZ.plain) i=p.number:=by
  unfold fQ
  rw[agm,g]
  rfl
 obtain⟨U,F,vn,W,vu,a1,vl,V,n⟩:=p
 simp only at m
 have G:=M9 a.p
 refine Spec.body func95 rfl results95 ntmps95 rfl<|.sr<|.mo rfl<|.nc rfl<|.fa rfl<|.lo rfl<|.mo rfl ?_
 refine .aL i d c (λZ=>?_)
 refine .lo rfl<|.q .not<|.zn<|.cond rfl (λf=>?_) λf=>?_
 have x:b=false:=by simpa using f
 subst x
 refine .sr<|.mo rfl<|.nc rfl<|.fa rfl<|.lo rfl<|.mo rfl ?_
 refine .aL i d c (λX=>?_)
 refine .du i d c true (λD v=>?_)
 refine .zn<|.dm 16 mixed (by kernel_rfl) ?_
 conv=>arg 6;dsimp only[List.take]
 refine .mo rfl<|.nc rfl<|.fa rfl<|.q .makeInterface<|.mo rfl<|.nc rfl<|.fa rfl<|.fa rfl<|.lo rfl<|.mo rfl ?_
 refine .bG i B g (λY=>?_)
 refine .fa rfl<|.lo rfl<|.mo rfl ?_
 refine .q .cR ?_
 refine .q (.makeInterface (ut:=⟨underlying280⟩))<|.nil<|.cr (R:=R) (OY (Ao sb vp e us vv vb vw R) uA L _ _ (n,i) (O5 sb vp e us vv vb vw L _ l (n,i) (by omega) R) a.h) (λu T' C=>?_)
 obtain⟨rfl,L',t,w,s⟩:=C
 refine .nil<|fS _ .none rH ?_
 ·exact⟨_,_,L',rfl,t,v,⟨w.trans (by rw[<-m];exact(a.p.append_right _).trans (Nb (by omega) j)),s⟩⟩
 have y:b=true:=by simpa using f
 subst y
 refine .skip<|fS _ .none rH ?_
 ·exact⟨_,_,L,rfl,l,by rw[tE j (by omega)];exact d,by rw[tE j (by omega)];exact a⟩
theorem QG(L:List dA)(T g:ax)(h:QI sb vp e us vv vb vw L T)(R:ay)(ps:List bI)(q:List Bool)(l:OS 4 1 dT vw q g)(c:QW ps q L)(x:dA)(m:L[0]? =some x) [N:One vp] [O:One vv] [M:One vb] [Q:One vw]:
  Spec prog 93 [pT sb] R [T,g] λu H'=>∃T' Tw' L',H'=[T',Tw']/\u=iN x.2/\QI sb vp e us vv vb vw L' T'/\OS 4 1 dT vw (q.set x.2 false) Tw'/\QW ps (q.set x.2 false) L'/\mA ps q x.2/\x.2<q.length:=by
 have B:=h
 obtain⟨o,s,rfl,I,D⟩:=h
 have U:PS (ja sb vp e us vv vb vw o++s) (pT sb) [vp,iN e,.string us,vv,vb,vw,o]:=PS.of (E:=206) (fr:=(0,0)) (by simp)
 obtain⟨f,n,d⟩:=yR c.p c.h m
 obtain⟨a,i⟩:=x
 simp only at f n d
 obtain⟨b,k⟩:=bW d
 refine Spec.body func93 rfl results93 ntmps93 rfl<|.sr<|.ag rfl<|.z<|.mo rfl<|.nc rfl<|.fa rfl<|.q .makeInterface<|.cr (R:=R) (OU (Ao sb vp e us vv vb vw R) uA L _ B (a,i) m c.h (λx=>.iface 280 (.agg (dA.enc x).toArray)) (QI sb vp e us vv vb vw) (λL' T' w D=>O4 sb vp e us vv vb vw L' (a,i) T' w R)) (λu T' F=>?_)
 obtain⟨rfl,L',j,A,v⟩:=F
 have C:=j
 obtain⟨r,t,rfl,J,K⟩:=j
 have V:PS (ja sb vp e us vv vb vw r++t) (pT sb) [vp,iN e,.string us,vv,vb,vw,r]:=PS.of (E:=206) (fr:=(0,0)) (by simp)
 refine .q (.wX (ut:=⟨underlying280⟩)) ?_
 refine .bU (λH=>?_)
 refine .bP rfl rfl<|.zs<|.dm 7 mixed (by kernel_rfl) ?_
 conv=>arg 6;dsimp only[List.take]
 refine .mo rfl<|.nc rfl<|.fa rfl<|.lo rfl<|.fa rfl<|.lo rfl ?_
 refine .aL i l k (λS=>?_)
 refine .nil ?_
 skip
 refine .du i l k false (λG y=>?_)
 refine .z<|.fa rfl<|.lo rfl<|.az rfl<|.ret (bj _ (.one (.tmp rfl)) (aQ [1,1]) ?_)
 ·exact⟨_,_,L',rfl,rfl,C,y,⟨M8 c.p d f.1 (by rw[<-n];exact A),v⟩,f,d⟩
theorem Qz(a:Value) [g:One a](v:List Bool)(j:Nat)(b:Bool)(c:v[j]? =some b)(R:ay)(d:RS R 1 dT vv v)(pc:PC R (pT sb) [vp,iN e,.string us,vv,vb,vw,a]) [f:One vp] [h:One vv]:
  Spec prog 152 [pT sb,.int .i64 j] R [] λu H'=>u=.bool b/\H'=[]:=by
 refine Spec.body func152 rfl results152 ntmps152 rfl<|.sr<|.ag rfl<|.z<|.mo rfl<|.nc rfl<|.fa rfl<|.lo rfl<|.mo rfl ?_
 refine .bG j d c (λi=>?_)
 refine .lo rfl<|.az rfl<|.ret (aN rfl ?_)
 ·exact⟨rfl,rfl⟩
end
namespace LIM
theorem MZ(f:FuncId)(g:List Value) [e:aS prog f](p:Nat->Bool)(v:Value)(l:List Nat)(R:ay)(h:RS R 1 di v l)(C:∀s∈l,∀R',(∀b o,R b o->R' b o)->Spec prog f (g++[(λn:Nat=>iN n) s]) R' [] λu H'=>u=.bool (p s)/\H'=[]):
  Spec prog 192 [v,.func (.func f) g.toArray #[]] R [] λu H'=>(∃k:Int,u=.int .i64 k/\((∃(i:Nat) (x:Nat),l[i]? =some x/\p x=true/\(∀j y,j<i->l[j]? =some y->p y=false)/\k=i)\/((∀y∈l,p y=false)/\k= -1)))/\H'=[]:=by
 have H:=h.le
 refine Spec.body func192 rfl results192 ntmps192 rfl<|.sr<|.ag rfl<|.zs<|.sr<|.mo rfl<|.q (.bO h)<|.mo rfl<|.zn<|.block<|.loop (X:=Nat) (λi=>i<=l.length/\∀j z,j<i->l[j]? =some z->p z=false) (λi=>[(0,v),(1,.func (.func f) g.toArray #[]),(7,.int .i64 l.length),(8,iN i)]) (λ_=>[]) (λi=>l.length-i) 0 ⟨by omega,by omega⟩ kE.c.c.c.c rH ?_
 rintro i ⟨G,w⟩
 refine .sr<|.q .lss<|.zs<|.cond rfl (λm=>?_) λm=>?_
 have D:i<l.length:=by simp at m;omega
 obtain⟨z,d⟩:=bW D
 have F:=aW d
 refine .kn<|.seq<|.block<|.sr<|.mo rfl<|.ag rfl<|.z<|.mo rfl<|.mo rfl<|.mo rfl ?_
 refine .bG i h d (λI=>?_)
 refine .lo rfl<|.gj (first:=g) (captured:=[]) (vs:=[(λn:Nat=>iN n) z]) (by rw[agt];exact C z F _ λb o A=>.inl A) (λu E=>?_)
 subst E
 refine .zn<|.cond rfl (λr=>?_) λr=>?_
 refine .sr<|.mo rfl<|.az rfl<|.ret (br (aK (cI (br (aK (aN rfl ?_))))))
 ·exact⟨⟨_,rfl,.inl ⟨i,z,d,r,w,rfl⟩⟩,rfl⟩
 refine .skip<|aX<|aw<|.region<|.q (.inc (n:=i) (by omega))<|.mo rfl<|.nil ?_
 ·exact bm (i+1) ⟨by omega,λj y t a=>by
   rcases Nat.lt_or_ge j i with hh|hh
   ·exact w j y hh a
   ·obtain rfl:j=i:=by omega
    rw[d]at a;cases a;exact r⟩ (by omega) kE.c.c.c.c rH
 refine .exit<|bo<|bs<|bp<|aw<|.sr<|.az rfl<|.ret (aN rfl ?_)
 ·have B:i=l.length:=by simp at m;omega
  subst B
  refine⟨⟨_,rfl,.inr ⟨λy a=>?_,rfl⟩⟩,rfl⟩
  obtain⟨j,t,rfl⟩:=agC.1 a
  exact w j _ t (aV t)
theorem xq(f:FuncId)(c:List Value) [e:aS prog f](p:Nat->Bool)(v:Value)(l:List Nat)(R:ay)(h:RS R 1 di v l)(m:∀s∈l,∀R',(∀b o,R b o->R' b o)->Spec prog f (c++[(λn:Nat=>iN n) s]) R' [] λu H'=>u=.bool (p s)/\H'=[]):
  Spec prog 151 [v,.func (.func f) c.toArray #[]] R [] λu H'=>u=.bool (l.any p)/\H'=[]:=by
 refine Spec.body func151 rfl results151 ntmps151 rfl<|.sr<|.ag rfl<|.z<|.mo rfl<|.mo rfl<|.ba (MZ f c p v l _ h.rx λs w R' g=>m s w R' λb o j=>g b o (.inl j)) (λu A=>?_)
 obtain⟨k,rfl,r⟩:=A
 have t:decide (0<=k)=l.any p:=by
  rcases r with⟨i,x,a,d,_,rfl⟩|⟨a,rfl⟩
  ·rw[List.any_eq_true.2 ⟨x,aW a,d⟩];simp
  ·rw[List.any_eq_false.2 λy B=>by rw[a y B];simp];rfl
 refine .q .geq<|.az rfl<|.ret (aN rfl ?_)
 ·exact⟨by simp only[t],rfl⟩
end LIM
theorem w5{l:List ByteArray}{s:ByteArray}:(l.any λx=>decide (x=s))=decide (s∈l):=by
 rw[Bool.eq_iff_iff,List.any_eq_true,decide_eq_true_eq]
 constructor
 ·rintro⟨x,a,h⟩
  exact bX h▸a
 ·exact λh=>⟨s,h,decide_eq_true rfl⟩
theorem w8{w:List Bool}{k j:Nat}(h:j<w.length):(w++List.replicate k false)[j]? =some (w.getD j false):=by
 rw[List.getElem?_append_left h,ago,aV h]
 rfl
theorem Of{p:bI}{us:ByteArray}{vf:Nat->Bool}{w:List Bool}{n:Nd}(c:p.nodes[w.length]? =some n)(d:(tree isWord p.nodes (w.length+1)).isSome=true)(f:∀e,e<w.length->w.getD e false=dt p us vf (e+1)):
  dt p us vf (w.length+1)=(if n.kind=1 then decide (us∈p.fU)||(p.leads.getD w.length []).any vf
   else if n.kind=2\/n.kind=3 then(p.leads.getD w.length []).any vf
   else if n.kind=4 then w.getD n.a.toNat false||w.getD n.b.toNat false
   else if n.kind=5 then w.getD n.a.toNat false&&w.getD n.b.toNat false
   else if n.kind=6 then w.getD n.a.toNat false&& !w.getD n.b.toNat false
   else false):=by
 have h:=PJ (t:=none) c d f w.length (by rw[AJ];omega)
 rw[<-h]
 unfold py
 rw[rN,agi (by omega),agj rfl,w5]
theorem NY{p:List Nd}{i:Nat}{n:Nd}(l:p[i]? =some n)(f:(tree isWord p (i+1)).isSome=true):n.kind=1\/n.kind=2\/n.kind=3\/((n.kind=4\/n.kind=5\/n.kind=6)/\0<=n.a/\n.a.toNat<i/\0<=n.b/\n.b.toNat<i):=by
 obtain⟨r,o⟩:=Option.isSome_iff_exists.1 f
 by_cases e:n.op=true
 ·obtain⟨b,x,y,c,g,d,q,s,_⟩:=nD l e o
  obtain⟨t,_,u,_⟩:=iP _ _ c
  obtain⟨v,_,w,_⟩:=iP _ _ d
  unfold Nd.op at e
  simp only[Bool.or_eq_true,beq_iff_eq]at e
  right;right;right
  refine⟨by omega,by omega,by omega,by omega,by omega⟩
 ·have m:n.op=false:=by simpa using e
  rw[ld l m]at f
  have j:n.leaf isWord=true:=by
   cases h:n.leaf isWord with
   |true=>rfl
   |false=>rw[h]at f;cases f
  unfold Nd.leaf at j
  simp only[Bool.and_eq_true]at j
  by_cases c:n.kind=1
  ·exact .inl c
  ·by_cases g:n.kind=2
   ·exact .inr (.inl g)
   ·by_cases d:n.kind=3
    ·exact .inr (.inr (.inl d))
    ·exfalso
     have k:=j.2
     rw[agi c,agi g,agi d]at k
     cases k
theorem QK(sb:Nat)(vp:Value)(e:Nat)(us:ByteArray)(vv vb vw vq:Value) [ip:One vp] [iv:One vv] [iq:One vq](p:aZ)(v:List Bool)(R:ay)(hp:p.is R)(hv:RS R 1 dT vv v)(pc:PC R (pT sb) [vp,iN e,.string us,vv,vb,vw,vq])
  (c3:p.ll.length=p.nodes.length)(c5:p.nodes.length<=1000000)(F:∀q∈p.ll,∀j∈q.2,j<v.length)(N:∀i,i<p.nodes.length->(tree isWord p.nodes (i+1)).isSome=true):
  Spec prog 94 [pT sb,.agg p.enc.toArray] R [] λu H'=>u=.bool (dt p.plain us (λj=>v.getD j false) p.nodes.length)/\H'=[]:=by
 have e0:cC p.enc:=⟨hp.dg⟩
 obtain⟨Z,W,U,d,S,a0,Q,ll,nm⟩:=p
 have a4:RS R 5 Nd.enc U d:=hp.n
 have c9:RS R 1 cG S a0:=hp.u
 have b0:RS R 1 eo Q ll:=hp.l.rs
 have O:=hp.l.all
 simp only at c3 c5 F N O
 have d9:=a4.le
 obtain⟨vf,J⟩:∃vf:Nat->Bool,vf=λj=>v.getD j false:=⟨_,rfl⟩
 rw[<-J]
 have I:=λ(w:List Bool) (n:Nd) (Y:d[w.length]? =some n) h2 h3=>Of (p:=aZ.plain ⟨Z,W,U,d,S,a0,Q,ll,nm⟩) (us:=us) (vf:=vf) (w:=w) (n:=n) Y h2 h3
 have c4:dt (aZ.plain ⟨Z,W,U,d,S,a0,Q,ll,nm⟩) us vf 0=false:=by rw[dt]
 have c7:(aZ.plain ⟨Z,W,U,d,S,a0,Q,ll,nm⟩).nodes=d:=rfl
 have c8:(aZ.plain ⟨Z,W,U,d,S,a0,Q,ll,nm⟩).fU=a0:=rfl
 have c6:∀i q,ll[i]? =some q->(aZ.plain ⟨Z,W,U,d,S,a0,Q,ll,nm⟩).leads.getD i []=q.2:=λi q hq=>by
  show((ll.map (·.2)).getD i [])=q.2
  rw[ago,agm,hq];rfl
 generalize aZ.plain ⟨Z,W,U,d,S,a0,Q,ll,nm⟩=pl at *
 subst c8
 rw[c7]at I
 refine Spec.body func94 rfl results94 ntmps94 rfl ?_
 refine .sr ?_
 refine .cx rfl (λb3=>?_)
 refine .ag rfl<|.z<|.fa rfl<|.lo rfl<|.q (.bO a4) ?_
 refine .makeSlice (enc:=dT) d.length false rfl rfl (by decide) (by simp[dT,aB]) rfl rfl (by omega) (by omega) (λa5 b5 b6=>?_)
 refine .ag rfl<|.zs<|.sr<|.fa rfl<|.lo rfl<|.q (.bO a4) ?_
 refine .mo rfl<|.zn<|.block ?_
 refine .cF [(0,_),(3,_),(5,_),(13,_),(14,_)] (X:=Nat×List Bool×ax) (λy=>y.1<=d.length/\y.2.1.length=y.1/\OS 4 1 dT (.slice (some ⟨a5,0,none⟩) d.length d.length) (y.2.1++List.replicate (d.length-y.1) false) y.2.2/\∀e,e<y.2.1.length->y.2.1.getD e false=dt pl us vf (e+1)) (λy E=>(15,iN y.1)::E) (λy G=>y.2.2::G) (λy=>d.length-y.1) (0,[],b5) ⟨agu _,rfl,by simp only[agp,Nat.sub_zero];exact b6,λe he=>absurd he (by simp)⟩ kE.c.c.c.c.c.c rH ?_
 rintro⟨i,w,T⟩ ⟨hi,C,f,M⟩
 simp only at hi C f M⊢
 refine .sr<|.q .lss<|.zs ?_
 refine .cond rfl (λY=>?_) λY=>?_
 have a3:i<d.length:=cy Y
 obtain⟨n,hn⟩:=bW a3
 obtain⟨⟨vr,a2⟩,a1⟩:∃q,ll[i]? =some q:=⟨_,aV (by omega)⟩
 have b4:=aW a1
 have hr:RS R 1 di vr a2:=O _ b4
 have H:=F _ b4
 simp only at H
 obtain⟨k,hk⟩:∃k,d.length-i=k+1:=⟨d.length-i-1,by omega⟩
 have c1:d.length-(i+1)=k:=by omega
 rw[hk]at f
 have f1:PC R (eE Q (i*1)) (eo (vr,a2)):=b0.pc a1
 have b1:=NY hn (N i a3)
 have m:=I w n (by rw[C];exact hn) (by rw[C];exact N i a3) M
 rw[C,c6 i _ a1]at m
 simp only at m
 have r:(w++List.replicate (k+1) false)[i]? =some false:=by
  rw[List.getElem?_append_right (by omega),C,Nat.sub_self];rfl
 have D:∀j∈a2,∀V,(∀b o,R b o->V b o)->Spec prog 152 ([pT sb]++[iN j]) V [] λu H'=>u=.bool (vf j)/\H'=[]:=λj hj V hR=>by
  obtain⟨b,hb⟩:∃b,v[j]? =some b:=⟨_,aV (H j hj)⟩
  have b9:vf j=b:=by rw[J];simp only;rw[ago,hb];rfl
  rw[b9]
  exact Qz sb vp e us vv vb vw vq v j b hb V (hv.mono hR) (pc.mono hR)
 refine .kn<|.seq<|.block<|.sr<|.mo rfl ?_
 refine .bG i a4 hn (λe3=>?_)
 refine .q (.aT rfl) ?_
 refine .bU (λb7=>?_)
 refine .ag rfl<|.bP rfl rfl<|.z<|.fa rfl<|.lo rfl<|.zn ?_
 refine bx.cZ [(0,_),(3,_),(5,_),(13,_),(14,_),(15,_)] kE.c.c.c.c.c.c (X:=ax) (λT=>OS 4 1 dT (.slice (some ⟨a5,0,none⟩) d.length d.length) ((w++[dt pl us vf (i+1)])++List.replicate k false) T) (λ_ E=>E) (λT=>[T,bl b3 (aZ.enc ⟨Z,W,U,d,S,pl.fU,Q,ll,nm⟩) 95]) ?_ ?_
 refine .block<|.sr<|.q .bY<|.az rfl ?_
 refine .cond rfl (λh2=>?_) λh2=>?_
 have a8:n.kind=1:=by simpa using h2
 rw[agj a8]at m
 refine .cS [20] mixed ?_
 refine .tO 0 rfl .move<|.tO 1 rfl .move<|.tO 2 rfl (.fieldAddr rfl)<|.tO 3 rfl (.cm rfl)<|.tO 4 rfl .move<|.tO 5 rfl (.nilCheck rfl)<|.tO 6 rfl (.fieldAddr rfl)<|.tO 7 rfl (.cm rfl) ?_
 refine .sT 8 rfl ?_
 refine .ba (P8 S pl.fU us _ c9.rx) (λu hu=>?_)
 subst hu
 refine .nil (Next.sub ?_)
 refine .tO 9 rfl .move ?_
 refine RA.split (t:=33) rfl (λh=>?_) (λh=>?_)
 refine .ox 10 rfl rfl h rfl (by kernel_rfl) ?_
 refine .ox 11 rfl rfl h rfl (by kernel_rfl) ?_
 refine .ox 12 rfl rfl h rfl (by kernel_rfl) ?_
 refine .ox 13 rfl rfl h rfl (by kernel_rfl) ?_
 refine .ox 14 rfl rfl h rfl (by kernel_rfl) ?_
 refine .ox 15 rfl rfl h rfl (by kernel_rfl) ?_
 refine .ox 16 rfl rfl h rfl (by kernel_rfl) ?_
 refine .sT 17 rfl ?_
 refine .gF h ?_
 refine .nil (Next.sub ?_)
 refine .tO 18 rfl (.aU h) ?_
 refine RA.aL 19 rfl i f r rfl rfl rfl (by kernel_rfl) (λd2=>?_)
 refine .sT 20 rfl ?_
 refine .du i f r _ (λs g=>?_)
 rw[jG C]at g
 refine .nil (Next.mod rfl ?_)
 refine RA.nil (by kernel_rfl) ?_
 refine aX ?_
 exact aG s (by
  clear I D J M O F H N
  rw[m]
  first
   |exact g
   |(simp_all;done)) kE.c.c.c.c.c.c (aQ [1,1])
 refine .oy 10 rfl rfl h (.fieldAddr rfl) (by kernel_rfl) ?_
 refine .oy 11 rfl rfl h (.cm rfl) (by kernel_rfl) ?_
 refine .oy 12 rfl rfl h .move (by kernel_rfl) ?_
 refine .oy 13 rfl rfl h (.bG i b0 a1 rfl rfl rfl) (by kernel_rfl) ?_
 refine .oy 14 rfl rfl h (.cm rfl) (by kernel_rfl) ?_
 refine .oy 15 rfl rfl h .move (by kernel_rfl) ?_
 refine .oy 16 rfl rfl h .makeFunc (by kernel_rfl) ?_
 refine .sT 17 rfl ?_
 refine .gT h ?_
 refine .ba (LIM.xq 152 [pT sb] vf vr a2 _ hr.rx λj hj V hR=>D j hj V λb o hb=>hR b o (.inl hb)) (λu hu=>?_)
 subst hu
 refine .nil (Next.sub ?_)
 refine .tO 18 rfl (.aR h) ?_
 refine RA.aL 19 rfl i f r rfl rfl rfl (by kernel_rfl) (λd2=>?_)
 refine .sT 20 rfl ?_
 refine .du i f r _ (λs g=>?_)
 rw[jG C]at g
 refine .nil (Next.mod rfl ?_)
 refine RA.nil (by kernel_rfl) ?_
 refine aX ?_
 exact aG s (by
  clear I D J M O F H N
  rw[m]
  first
   |exact g
   |(simp_all;done)) kE.c.c.c.c.c.c (aQ [1,1])
 have a8:n.kind≠1:=by simpa using h2
 rw[agi a8]at m
 refine .seq<|.sr<|.q .bY<|.az rfl ?_
 refine bx.cZ [(0,_),(3,_),(5,_),(6,_),(7,_),(13,_),(14,_),(15,_),(21,_)] kE.c.c.c.c.c.c.c.c.c (X:=Unit) (λ_=>True) (λ_ E=>(44,.bool (decide (n.kind=2\/n.kind=3)))::E) (λ_=>[bl b7 n.enc 199,T,bl b3 (aZ.enc ⟨Z,W,U,d,S,pl.fU,Q,ll,nm⟩) 95]) ?_ ?_
 refine .cond rfl (λh3=>?_) λh3=>?_
 refine .skip ?_
 ·exact aG () trivial (kE.c.c.c.c.c.c.c.c.c.ca rfl (by clear m I D F H J b1;grind)) rH
 refine .region<|.q .bY<|.ag rfl<|.nil ?_
 ·exact aG () trivial (kE.c.c.c.c.c.c.c.c.c.ca rfl (by clear m I D F H J b1;grind)) rH
 intro x hx
 refine aw ?_
 refine .cond rfl (λh4=>?_) λh4=>?_
 have a9:n.kind=2\/n.kind=3:=bX h4
 rw[agj a9]at m
 refine .region<|.mo rfl<|.mo rfl<|.fa rfl<|.lo rfl<|.mo rfl ?_
 refine .bG i b0 a1 (λe4=>?_)
 refine .lo rfl<|.mo rfl<|.q .makeFunc ?_
 refine .ba (LIM.xq 152 [pT sb] vf vr a2 _ hr.rx λj hj V hR=>D j hj V λb o hb=>hR b o (.inl hb)) (λu hu=>?_)
 subst hu
 refine .aL i f r (λe5=>?_)
 refine .du i f r _ (λs g=>?_)
 rw[jG C]at g
 refine .nil<|aX ?_
 exact aG s (by
  clear I D J M O F H N
  rw[m]
  first
   |exact g
   |(simp_all;done)) kE.c.c.c.c.c.c (aQ [1,1])
 have a9:¬(n.kind=2\/n.kind=3):=bF h4
 rw[agi a9]at m
 have b8:0<=n.a/\n.a.toNat<i/\0<=n.b/\n.b.toNat<i:=by omega
 obtain⟨d5,d6,d7,d8⟩:=b8
 have a6:=w8 (w:=w) (k:=k+1) (j:=n.a.toNat) (by omega)
 have a7:=w8 (w:=w) (k:=k+1) (j:=n.b.toNat) (by omega)
 refine .sr<|.q .bY<|.az rfl ?_
 refine .cond rfl (λh5=>?_) λh5=>?_
 refine .region<|.mo rfl<|.mo rfl<|.mo rfl<|.fa rfl<|.lo rfl ?_
 refine .aL n.a.toNat f a6 (λe6=>?_) rfl rfl (by omega)
 refine .lo rfl<|.mo rfl ?_
 refine .split (t:=67) rfl (λK=>?_) (λK=>?_)
 refine .gF K<|.gF K<|.gF K<|.gF K<|.gF K<|.q (.aU K) ?_
 refine .aL i f r (λd3=>?_)
 refine .du i f r _ (λs g=>?_)
 rw[jG C]at g
 refine .nil<|aX ?_
 exact aG s (by
  clear I D J M O F H N
  rw[m]
  first
   |exact g
   |(simp_all;done)) kE.c.c.c.c.c.c (aQ [1,1])
 refine .gT K<|.mo rfl<|.gT K<|.fa rfl<|.gT K<|.lo rfl<|.gT K ?_
 refine .aL n.b.toNat f a7 (λe7=>?_) rfl rfl (by omega)
 refine .gT K<|.lo rfl<|.q (.aR K) ?_
 refine .aL i f r (λd3=>?_)
 refine .du i f r _ (λs g=>?_)
 rw[jG C]at g
 refine .nil<|aX ?_
 exact aG s (by
  clear I D J M O F H N
  rw[m]
  first
   |exact g
   |(simp_all;done)) kE.c.c.c.c.c.c (aQ [1,1])
 refine .sr<|.q .bY<|.az rfl ?_
 refine .cond rfl (λh6=>?_) λh6=>?_
 refine .region<|.mo rfl<|.mo rfl<|.mo rfl<|.fa rfl<|.lo rfl ?_
 refine .aL n.a.toNat f a6 (λe8=>?_) rfl rfl (by omega)
 refine .lo rfl<|.mo rfl ?_
 refine .split (t:=84) rfl (λL=>?_) (λL=>?_)
 refine .gT L<|.mo rfl<|.gT L<|.fa rfl<|.gT L<|.lo rfl<|.gT L ?_
 refine .aL n.b.toNat f a7 (λe9=>?_) rfl rfl (by omega)
 refine .gT L<|.lo rfl<|.q (.aU L) ?_
 refine .aL i f r (λd4=>?_)
 refine .du i f r _ (λs g=>?_)
 rw[jG C]at g
 refine .nil<|aX ?_
 exact aG s (by
  clear I D J M O F H N
  rw[m]
  first
   |exact g
   |(simp_all;done)) kE.c.c.c.c.c.c (aQ [1,1])
 refine .gF L<|.gF L<|.gF L<|.gF L<|.gF L<|.q (.aR L) ?_
 refine .aL i f r (λd4=>?_)
 refine .du i f r _ (λs g=>?_)
 rw[jG C]at g
 refine .nil<|aX ?_
 exact aG s (by
  clear I D J M O F H N
  rw[m]
  first
   |exact g
   |(simp_all;done)) kE.c.c.c.c.c.c (aQ [1,1])
 refine .sr<|.q .bY<|.az rfl ?_
 refine .cond rfl (λh7=>?_) λh7=>?_
 refine .region<|.mo rfl<|.mo rfl<|.mo rfl<|.fa rfl<|.lo rfl ?_
 refine .aL n.a.toNat f a6 (λf0=>?_) rfl rfl (by omega)
 refine .lo rfl<|.mo rfl ?_
 refine .split (t:=101) rfl (λB=>?_) (λB=>?_)
 refine .gT B<|.mo rfl<|.gT B<|.fa rfl<|.gT B<|.lo rfl<|.gT B ?_
 refine .aL n.b.toNat f a7 (λe1=>?_) rfl rfl (by omega)
 refine .gT B<|.lo rfl<|.gT B<|.q .not<|.q (.aU B) ?_
 refine .aL i f r (λd1=>?_)
 refine .du i f r _ (λs g=>?_)
 rw[jG C]at g
 refine .nil<|aX ?_
 exact aG s (by
  clear I D J M O F H N
  rw[m]
  first
   |exact g
   |(simp_all;done)) kE.c.c.c.c.c.c (aQ [1,1])
 refine .gF B<|.gF B<|.gF B<|.gF B<|.gF B<|.gF B<|.q (.aR B) ?_
 refine .aL i f r (λd1=>?_)
 refine .du i f r _ (λs g=>?_)
 rw[jG C]at g
 refine .nil<|aX ?_
 exact aG s (by
  clear I D J M O F H N
  rw[m]
  first
   |exact g
   |(simp_all;done)) kE.c.c.c.c.c.c (aQ [1,1])
 ·exfalso
  clear m I D F H J
  simp_all
 intro x hx
 have d0:OS 4 1 dT (.slice (some ⟨a5,0,none⟩) d.length d.length) ((w++[dt pl us vf (i+1)])++List.replicate k false) x:=hx
 refine aX<|aw<|.region ?_
 refine .ia (i+1) .add ?_
 refine .mo rfl<|.nil ?_
 ·exact bm (i+1,w++[dt pl us vf (i+1)],x) ⟨a3,by simp[C],by simp only;rw[c1];exact d0,λe he=>by
   simp only at he⊢
   rw[agH,agB]at he
   rw[rN]
   split
   ·exact M e (by assumption)
   ·rw[agj (by omega),show e=i by omega]⟩ (by simp only;omega) kE.c.c.c.c.c.c rH
 have c0:i=d.length:=by have:=bF Y;omega
 subst c0
 rw[Nat.sub_self]at f
 simp only[List.replicate_zero,agt]at f
 refine .exit<|bo<|bs<|bp<|aw<|.sr<|.mo rfl<|.q (.ep f) ?_
 refine .q .gtr<|.mo rfl ?_
 refine .split (t:=114) rfl (λA=>?_) (λA=>?_)
 have b2:0<d.length:=by have:=bX A;omega
 have c2:w[d.length-1]? =some (dt pl us vf d.length):=by
  have Y:=M (d.length-1) (by omega)
  rw[ago,aV (by omega),agF,show d.length-1+1=d.length by omega]at Y
  rw[aV (by omega),Y]
 refine .gT A<|.mo rfl<|.gT A<|.mo rfl<|.gT A<|.q (.ep f) ?_
 refine .gT A ?_
 refine .q (.i64 (((d.length-1:Nat)):Int) .sub ⟨by omega,by omega,by omega⟩) ?_
 refine .gT A ?_
 refine .aL (d.length-1) f c2 (λe2=>?_)
 refine .gT A<|.lo rfl<|.q (.aU A) ?_
 refine .az rfl ?_
 refine .ret (aN rfl ?_)
 ·exact⟨rfl,rfl⟩
 have b2:d.length=0:=by have:=bF A;omega
 refine .gF A<|.gF A<|.gF A<|.gF A<|.gF A<|.gF A<|.q (.aR A) ?_
 refine .az rfl ?_
 refine .ret (aN rfl ?_)
 ·exact⟨by rw[b2,c4],rfl⟩
def kK(ps:List bI):List Bool:=ps.map (·.found)
def qi(ps:List bI)(i:Nat):List Bool:=(kK ps).take i++List.replicate (ps.length-i) false
theorem Al{ps:List bI}{i:Nat}(h:i<=ps.length):(qi ps i).length=ps.length:=by unfold qi kK;simp;omega
theorem Am{ps:List bI}{i:Nat}{p:bI}(h:ps[i]? =some p):qi ps (i+1)=(qi ps i).set i p.found:=by
 have c:=(agG.1 h).1
 obtain⟨k,b⟩:∃k,ps.length-i=k+1:=⟨ps.length-i-1,by omega⟩
 have a:(kK ps)[i]? =some p.found:=by unfold kK;rw[agm,h];rfl
 unfold qi
 rw[b,jG (by unfold kK;simp;omega),ec a,show ps.length-(i+1)=k by omega]
theorem O1{ps:List bI}{i:Nat}{p:bI}(h:ps[i]? =some p)(a:p.found=false):qi ps (i+1)=qi ps i:=by
 have b:=(agG.1 h).1
 rw[Am h,a]
 refine tE ?_ (by rw[Al (by omega)];exact b)
 unfold qi
 rw[ago,List.getElem?_append_right (by simp[kK];omega),List.getElem?_replicate]
 split<;>rfl
theorem O0(ps:List bI):qi ps ps.length=kK ps:=by
 unfold qi kK
 rw[List.take_of_length_le (by simp),Nat.sub_self,List.replicate_zero,agt]
theorem An(ps:List bI):qi ps 0=List.replicate ps.length false:=by unfold qi;simp
theorem O6(ps:List bI):QW ps (qi ps 0) []:=⟨by
 have h:items ps (qi ps 0)=[]:=by
  unfold items
  rw[List.map_eq_nil_iff]
  cases hq:js (qi ps 0)with
  |nil=>rfl
  |cons x l=>
   have:=fR.1 (show x∈js (qi ps 0) by rw[hq];exact List.mem_cons_self)
   rw[An,yG]at this
   cases this
 rw[h],λk b a=>absurd a (by simp)⟩
theorem Cr(ps:List bI)(i:Nat)(a:List Nat)(j:Nat):(gL ps i a j).length<=i+1:=by
 have b:(lX ps i j).length<=i:=by
  unfold lX
  exact agn (agz _ _) (by simp)
 unfold gL
 rw[agH]
 split
 ·rw[agB];omega
 ·rw[List.length_nil];omega
theorem AG{a:List iF}{n:Nat}{f:Nat->List Nat}(h:a.map (·.1.2)=(List.range n).map f){k:Nat}(e:k<n):∃v T,a[k]? =some ((v,f k),T):=by
 have b:=congrArg (λl=>l[k]?) h
 simp only[agm,List.getElem?_range e,agA]at b
 obtain⟨⟨⟨v,r⟩,T⟩,d,c⟩:=Option.map_eq_some_iff.1 b
 simp only at c
 subst c
 exact⟨v,T,d⟩
theorem PD{a:List iF}{n:Nat}{f g:Nat->List Nat}(h:a.map (·.1.2)=(List.range n).map f){k:Nat}{v:Value}{r:List Nat}{T:ax}(b:∀j,j<n->g j=if j=k then r else f j)(c:k<n):(a.set k ((v,r),T)).map (·.1.2)=(List.range n).map g:=by
 rw[List.map_set,h]
 refine List.ext_getElem? λj=>?_
 rw[List.getElem?_set]
 rcases Nat.lt_or_ge j n with hj|hj
 ·rw[agm,agm,List.getElem?_range hj,agA,agA,b j hj]
  by_cases e:k=j
  ·subst e;simp[c]
  ·rw[agi e,agi λh=>e h.symm]
 ·rw[agi (by omega),List.getElem?_eq_none (by simpa using hj),List.getElem?_eq_none (by simpa using hj)]
theorem Ct(ps:List bI):(λj=>gL ps 0 [] j)=λ_=>[]:=by
 funext j
 unfold gL lX
 simp
theorem Co(ps:List bI):(λj=>gL ps ps.length [] j)=fD ps:=by
 funext j
 unfold gL
 rw[Cd]
 simp
theorem MK(n:Nat):((List.replicate n ((((sZ,[]),[]):iF))).flatMap (·.2))=[]:=by
 rw[List.flatMap_eq_nil_iff]
 intro x a
 rw[(List.mem_replicate.1 a).2]
theorem QF(s:Value)(e:Nat)(us:ByteArray)(ps:List aZ)(R:ay)(Q:RS R 8 aZ.enc s ps)(c2:∀p∈ps,p.is R)(h0:ps.length<=2000000)(f9:∀p∈ps,p.ll.length<=1000000)(f8:∀p∈ps,∀q∈p.ll,q.2.length<=1000000/\∀j∈q.2,j<ps.length):
  Spec prog 91 [.agg [s,iN e].toArray,.string us] R [] λu H'=>∃sb vv vb vw L LL Ta Tw Tv To,H'=[Ta,Tw,Tv,To,LL.flatMap (·.2)]/\u=pT sb/\One vv/\One vb/\One vw/\QI sb s e us vv vb vw L Ta/\QW (ps.map aZ.plain) (kK (ps.map aZ.plain)) L/\OS 4 1 dT vw (kK (ps.map aZ.plain)) Tw/\OS 4 1 dT vv (List.replicate ps.length false) Tv/\oI vb LL To/\LL.map (·.1.2)=(List.range ps.length).map (fD (ps.map aZ.plain)):=by
 have i0:=Q.aB
 have g9:=Q.le
 have g3:∀p∈ps,∀u∈p.enc,aB u=true:=λp K=>(c2 p K).dg
 have d1:∀(i:Nat) (p:aZ),ps[i]? =some p->(ps.map aZ.plain)[i]? =some p.plain:=λi p K=>by rw[agm,K];rfl
 obtain⟨P,Y⟩:∃P,P=ps.map aZ.plain:=⟨_,rfl⟩
 have a3:P.length=ps.length:=by rw[Y,agl]
 rw[<-Y]
 rw[<-Y]at d1
 refine Spec.body func91 rfl results91 ntmps91 rfl ?_
 refine .sr ?_
 refine .cx rfl (λM=>?_)
 refine .ag rfl<|.z<|.fa rfl<|.lo rfl<|.q (.bO Q) ?_
 refine .ag rfl<|.zs ?_
 refine bx.cZ [(2,_)] kE.c (X:=(Nat×Nat×Nat×Nat)×(ax×ax×ax)) (λy=>OS 4 1 dT (.slice (some ⟨y.1.2.1,0,none⟩) ps.length ps.length) (List.replicate ps.length false) y.2.1/\OS 182 1 eo (.slice (some ⟨y.1.2.2.1,0,none⟩) ps.length ps.length) (List.replicate ps.length ((sZ,[]):fW)) y.2.2.1/\OS 4 1 dT (.slice (some ⟨y.1.2.2.2,0,none⟩) ps.length ps.length) (List.replicate ps.length false) y.2.2.2) (λy E=>(6,.pointer (some ⟨y.1.1,0,none⟩))::E) (λy=>[y.2.2.1,[],ja y.1.1 s e us (.slice (some ⟨y.1.2.1,0,none⟩) ps.length ps.length) (.slice (some ⟨y.1.2.2.1,0,none⟩) ps.length ps.length) (.slice (some ⟨y.1.2.2.2,0,none⟩) ps.length ps.length) (sZ),y.2.2.2,y.2.1,bl M [s,iN e] 81]) ?_ ?_
 refine .cS [] mixed ?_
 refine .tO 0 rfl (.aT rfl)<|.tO 1 rfl .move<|.tO 2 rfl .move<|.tO 4 rfl .move<|.tO 6 rfl .move ?_
 refine RA.QQ 3 5 7 rfl rfl rfl (by kernel_rfl) rfl ?_ ?_ ?_
 refine .makeSlice (enc:=dT) ps.length false rfl rfl (by decide) (by simp[dT,aB]) rfl rfl (by omega) (by omega) (λB Tv n=>?_)
 refine .nil (Next.sub ?_)
 refine RA.jH 5 7 rfl rfl (by kernel_rfl) rfl ?_ ?_
 refine .makeSlice (enc:=eo) ps.length ((sZ,[]):fW) rfl rfl (by decide) (by simp[eo,aB]) rfl rfl (by omega) (by omega) (λA w f=>?_)
 refine .nil (Next.sub ?_)
 refine .sT 7 rfl ?_
 refine .makeSlice (enc:=dT) ps.length false rfl rfl (by decide) (by simp[dT,aB]) rfl rfl (by omega) (by omega) (λC Tw g=>?_)
 refine .nil (Next.sub ?_)
 refine .tO 8 rfl .cR ?_
 refine .sT 9 rfl ?_
 refine .cx rfl (λF=>?_)
 refine .nil (Next.sub ?_)
 refine .tO 10 rfl .assign ?_
 refine RA.nil (by kernel_rfl) ?_
 ·exact aG ((F,B,A,C),(Tv,w,Tw)) ⟨n,f,g⟩ kE.c.c (bz.fH.trans (by
   first
    |exact(aQ [3,0,0,0,0,0])
    |exact(aQ [3,0,0,1,0,0])
    |exact(aQ [2,0,0,0,0,0])
    |exact(aQ [2,0,0,1,0,0])
    |exact(aQ [4,0,0,0,0,0])
    |exact(aQ [4,0,0,1,0,0])))
 refine .makeSlice (enc:=dT) ps.length false rfl rfl (by decide) (by simp[dT,aB]) rfl rfl (by omega) (by omega) (λC Tw g=>?_)
 refine .nil (Next.sub ?_)
 refine .sT 5 rfl ?_
 refine .makeSlice (enc:=eo) ps.length ((sZ,[]):fW) rfl rfl (by decide) (by simp[eo,aB]) rfl rfl (by omega) (by omega) (λA w f=>?_)
 refine .nil (Next.sub ?_)
 refine .tO 8 rfl .cR ?_
 refine .sT 9 rfl ?_
 refine .cx rfl (λF=>?_)
 refine .nil (Next.sub ?_)
 refine .tO 10 rfl .assign ?_
 refine RA.nil (by kernel_rfl) ?_
 ·exact aG ((F,B,A,C),(Tv,w,Tw)) ⟨n,f,g⟩ kE.c.c (bz.fH.trans (by
   first
    |exact(aQ [3,0,0,0,0,0])
    |exact(aQ [3,0,0,1,0,0])
    |exact(aQ [2,0,0,0,0,0])
    |exact(aQ [2,0,0,1,0,0])
    |exact(aQ [4,0,0,0,0,0])
    |exact(aQ [4,0,0,1,0,0])))
 refine .makeSlice (enc:=eo) ps.length ((sZ,[]):fW) rfl rfl (by decide) (by simp[eo,aB]) rfl rfl (by omega) (by omega) (λA w f=>?_)
 refine .nil (Next.sub ?_)
 refine RA.jH 3 7 rfl rfl (by kernel_rfl) rfl ?_ ?_
 refine .makeSlice (enc:=dT) ps.length false rfl rfl (by decide) (by simp[dT,aB]) rfl rfl (by omega) (by omega) (λB Tv n=>?_)
 refine .nil (Next.sub ?_)
 refine .sT 7 rfl ?_
 refine .makeSlice (enc:=dT) ps.length false rfl rfl (by decide) (by simp[dT,aB]) rfl rfl (by omega) (by omega) (λC Tw g=>?_)
 refine .nil (Next.sub ?_)
 refine .tO 8 rfl .cR ?_
 refine .sT 9 rfl ?_
 refine .cx rfl (λF=>?_)
 refine .nil (Next.sub ?_)
 refine .tO 10 rfl .assign ?_
 refine RA.nil (by kernel_rfl) ?_
 ·exact aG ((F,B,A,C),(Tv,w,Tw)) ⟨n,f,g⟩ kE.c.c (bz.fH.trans (by
   first
    |exact(aQ [3,0,0,0,0,0])
    |exact(aQ [3,0,0,1,0,0])
    |exact(aQ [2,0,0,0,0,0])
    |exact(aQ [2,0,0,1,0,0])
    |exact(aQ [4,0,0,0,0,0])
    |exact(aQ [4,0,0,1,0,0])))
 refine .makeSlice (enc:=dT) ps.length false rfl rfl (by decide) (by simp[dT,aB]) rfl rfl (by omega) (by omega) (λC Tw g=>?_)
 refine .nil (Next.sub ?_)
 refine .sT 3 rfl ?_
 refine .makeSlice (enc:=dT) ps.length false rfl rfl (by decide) (by simp[dT,aB]) rfl rfl (by omega) (by omega) (λB Tv n=>?_)
 refine .nil (Next.sub ?_)
 refine .tO 8 rfl .cR ?_
 refine .sT 9 rfl ?_
 refine .cx rfl (λF=>?_)
 refine .nil (Next.sub ?_)
 refine .tO 10 rfl .assign ?_
 refine RA.nil (by kernel_rfl) ?_
 ·exact aG ((F,B,A,C),(Tv,w,Tw)) ⟨n,f,g⟩ kE.c.c (bz.fH.trans (by
   first
    |exact(aQ [3,0,0,0,0,0])
    |exact(aQ [3,0,0,1,0,0])
    |exact(aQ [2,0,0,0,0,0])
    |exact(aQ [2,0,0,1,0,0])
    |exact(aQ [4,0,0,0,0,0])
    |exact(aQ [4,0,0,1,0,0])))
 refine .makeSlice (enc:=dT) ps.length false rfl rfl (by decide) (by simp[dT,aB]) rfl rfl (by omega) (by omega) (λC Tw g=>?_)
 refine .nil (Next.sub ?_)
 refine RA.jH 3 5 rfl rfl (by kernel_rfl) rfl ?_ ?_
 refine .makeSlice (enc:=dT) ps.length false rfl rfl (by decide) (by simp[dT,aB]) rfl rfl (by omega) (by omega) (λB Tv n=>?_)
 refine .nil (Next.sub ?_)
 refine .sT 5 rfl ?_
 refine .makeSlice (enc:=eo) ps.length ((sZ,[]):fW) rfl rfl (by decide) (by simp[eo,aB]) rfl rfl (by omega) (by omega) (λA w f=>?_)
 refine .nil (Next.sub ?_)
 refine .tO 8 rfl .cR ?_
 refine .sT 9 rfl ?_
 refine .cx rfl (λF=>?_)
 refine .nil (Next.sub ?_)
 refine .tO 10 rfl .assign ?_
 refine RA.nil (by kernel_rfl) ?_
 ·exact aG ((F,B,A,C),(Tv,w,Tw)) ⟨n,f,g⟩ kE.c.c (bz.fH.trans (by
   first
    |exact(aQ [3,0,0,0,0,0])
    |exact(aQ [3,0,0,1,0,0])
    |exact(aQ [2,0,0,0,0,0])
    |exact(aQ [2,0,0,1,0,0])
    |exact(aQ [4,0,0,0,0,0])
    |exact(aQ [4,0,0,1,0,0])))
 refine .makeSlice (enc:=eo) ps.length ((sZ,[]):fW) rfl rfl (by decide) (by simp[eo,aB]) rfl rfl (by omega) (by omega) (λA w f=>?_)
 refine .nil (Next.sub ?_)
 refine .sT 3 rfl ?_
 refine .makeSlice (enc:=dT) ps.length false rfl rfl (by decide) (by simp[dT,aB]) rfl rfl (by omega) (by omega) (λB Tv n=>?_)
 refine .nil (Next.sub ?_)
 refine .tO 8 rfl .cR ?_
 refine .sT 9 rfl ?_
 refine .cx rfl (λF=>?_)
 refine .nil (Next.sub ?_)
 refine .tO 10 rfl .assign ?_
 refine RA.nil (by kernel_rfl) ?_
 ·exact aG ((F,B,A,C),(Tv,w,Tw)) ⟨n,f,g⟩ kE.c.c (bz.fH.trans (by
   first
    |exact(aQ [3,0,0,0,0,0])
    |exact(aQ [3,0,0,1,0,0])
    |exact(aQ [2,0,0,0,0,0])
    |exact(aQ [2,0,0,1,0,0])
    |exact(aQ [4,0,0,0,0,0])
    |exact(aQ [4,0,0,1,0,0])))
 intro y hy
 obtain⟨⟨sb,B,A,C⟩,⟨Tv,w,Tw⟩⟩:=y
 obtain⟨n,f,g⟩:=hy
 simp only at n f g⊢
 obtain⟨vv,d9⟩:∃v,v=Value.slice (some ⟨B,0,none⟩) ps.length ps.length:=⟨_,rfl⟩
 obtain⟨vb,d8⟩:∃v,v=Value.slice (some ⟨A,0,none⟩) ps.length ps.length:=⟨_,rfl⟩
 obtain⟨vw,e0⟩:∃v,v=Value.slice (some ⟨C,0,none⟩) ps.length ps.length:=⟨_,rfl⟩
 rw[<-d9]at n⊢
 rw[<-d8]at f⊢
 rw[<-e0]at g⊢
 clear d9 d8 e0
 have i1:=n.aB
 have i2:=f.aB
 have i3:=g.aB
 refine aw<|.seq<|.sr<|.fa rfl<|.lo rfl<|.q (.bO Q) ?_
 refine .mo rfl<|.zn<|.block ?_
 refine .cF [(6,_),(28,_),(29,_)] (X:=Nat×List dA×List iF×(ax×ax×ax)) (λy=>y.1<=ps.length/\QI sb s e us vv vb vw y.2.1 y.2.2.2.1/\QW P (qi P y.1) y.2.1/\OS 4 1 dT vw (qi P y.1) y.2.2.2.2.1/\oI vb y.2.2.1 y.2.2.2.2.2/\y.2.2.1.map (·.1.2)=(List.range ps.length).map λj=>gL P y.1 [] j) (λy E=>(30,iN y.1)::E) (λy G=>y.2.2.2.2.2::y.2.2.1.flatMap (·.2)::y.2.2.2.1::y.2.2.2.2.1::G) (λy=>ps.length-y.1) (0,[],List.replicate ps.length (((sZ,[]),[]):iF),(ja sb s e us vv vb vw (sZ),Tw,w)) ⟨agu _,⟨_,[],(agt _).symm,OS.nil,by simp⟩,O6 P,by simp only;rw[An,a3];exact g,⟨by simp only[List.map_replicate];exact f,λq hq=>by rw[(List.mem_replicate.1 hq).2];exact OS.nil⟩,by simp only;rw[Ct];simp[List.map_const']⟩ kE.c.c.c.c (bz.eS (by simp only[MK];exact .refl _)) ?_
 rintro⟨i,L,LL,⟨Ta,Tw,To⟩⟩ ⟨hi,O,Z,g,D,k⟩
 simp only at hi O Z g D k⊢
 refine .sr<|.q .lss<|.zs ?_
 refine .cond rfl (λh1=>?_) λh1=>?_
 have a4:i<ps.length:=cy h1
 obtain⟨p,K⟩:=bW a4
 have b5:=aW K
 have b4:=c2 p b5
 have a9:=d1 i p K
 have c4:=f8 p b5
 have g0:=f9 p b5
 have h8:cC p.enc:=⟨b4.dg⟩
 have f4:p.plain.leads.flatten=p.ll.flatMap (·.2):=by unfold aZ.plain;simp[List.flatMap_def]
 have f5:p.plain.found=p.found:=rfl
 have b0:=Cp a9
 have a5:=Am a9
 have a6:=O1 a9
 rw[f4]at b0
 rw[f5]at a5 a6
 generalize p.plain=pp at *
 obtain⟨k0,I,vn,a0,vu,a1,U,ll,nm⟩:=p
 have c9:RS R 1 eo U ll:=b4.l.rs
 have c8:=b4.l.all
 simp only at b0 a5 a6 c4 g0 c8
 obtain⟨vq,Tq,c1,e9,e7⟩:=O
 have O:QI sb s e us vv vb vw L Ta:=⟨vq,Tq,c1,e9,e7⟩
 have j0:PS Ta (pT sb) [s,iN e,.string us,vv,vb,vw,vq]:=PS.of (E:=206) (fr:=(0,0)) (by rw[c1];simp)
 refine .kn<|.seq<|.block<|.sr<|.mo rfl ?_
 refine .bG i Q K (λi4=>?_)
 refine .q (.aT rfl) ?_
 refine .bU (λV=>?_)
 refine .ag rfl<|.bP rfl rfl<|.zs<|.sr<|.fa rfl<|.lo rfl<|.q (.bO c9) ?_
 refine .mo rfl<|.zn<|.block ?_
 refine .cF [(6,_),(7,_),(8,_),(28,_),(29,_),(30,_),(36,_),(37,_)] (X:=Nat×List iF×ax) (λy=>y.1<=ll.length/\oI vb y.2.1 y.2.2/\y.2.1.map (·.1.2)=(List.range ps.length).map λj=>gL P i ((ll.take y.1).flatMap (·.2)) j) (λy E=>(38,iN y.1)::E) (λy _=>[bl V (aZ.enc ⟨k0,I,vn,a0,vu,a1,U,ll,nm⟩) 95,y.2.2,y.2.1.flatMap (·.2),Ta,Tw,Tv,bl M [s,iN e] 81]) (λy=>ll.length-y.1) (0,LL,To) ⟨agu _,D,by simpa using k⟩ kE.c.c.c.c.c.c.c.c.c rH (G:=[]) ?_
 rintro⟨m,LL,To⟩ ⟨hm,D,k⟩
 simp only at hm D k⊢
 refine .sr<|.q .lss<|.zs ?_
 refine .cond rfl (λh2=>?_) λh2=>?_
 have d0:m<ll.length:=cy h2
 obtain⟨⟨vr,H⟩,b6⟩:=bW d0
 have d3:=aW b6
 have hr:RS R 1 di vr H:=c8 _ d3
 obtain⟨g5,c6⟩:=c4 _ d3
 simp only at g5 c6
 have g6:(ll.take (m+1)).flatMap (·.2)=(ll.take m).flatMap (·.2)++H:=by rw[ec b6,agL];simp
 generalize (ll.take m).flatMap (·.2)=seen0 at *
 refine .kn<|.seq<|.block<|.sr ?_
 refine .bG m c9 b6 (λi5=>?_)
 refine .lo rfl<|.ag rfl<|.z<|.mo rfl<|.q (.bO hr) ?_
 refine .mo rfl<|.zn<|.block ?_
 refine .cF [(6,_),(7,_),(8,_),(28,_),(29,_),(30,_),(36,_),(37,_),(38,_),(42,_),(43,_)] (X:=Nat×List iF×ax) (λy=>y.1<=H.length/\oI vb y.2.1 y.2.2/\y.2.1.map (·.1.2)=(List.range ps.length).map λj=>gL P i (seen0++H.take y.1) j) (λy E=>(44,iN y.1)::E) (λy _=>[bl V (aZ.enc ⟨k0,I,vn,a0,vu,a1,U,ll,nm⟩) 95,y.2.2,y.2.1.flatMap (·.2),Ta,Tw,Tv,bl M [s,iN e] 81]) (λy=>H.length-y.1) (0,LL,To) ⟨agu _,D,by simpa using k⟩ kE.c.c.c.c.c.c.c.c.c.c.c.c rH (G:=[]) ?_
 rintro⟨j,LL,To⟩ ⟨hj,D,k⟩
 simp only at hj D k⊢
 refine .sr<|.q .lss<|.zs ?_
 refine .cond rfl (λW=>?_) λW=>?_
 have c7:j<H.length:=cy W
 obtain⟨d,a7⟩:=bW c7
 have d6:d<ps.length:=c6 d (aW a7)
 have g2:seen0++H.take (j+1)=(seen0++H.take j)++[d]:=by rw[ec a7,agM]
 generalize seen0++H.take j=seen at *
 obtain⟨vk,Tk,hk⟩:=AG k d6
 have J:=Cq P i seen d
 have d5:=λj=>Cs P i seen d j
 have f2:=Cr P i seen d
 obtain⟨r,d2⟩:∃r,r=gL P i seen d:=⟨_,rfl⟩
 rw[<-d2]at hk J f2
 obtain⟨f,a2⟩:=D
 have N:=a2 _ (aW hk)
 simp only at N
 have S:(LL.map (·.1))[d]? =some (vk,r):=by rw[agm,hk];rfl
 have i8:PS To (eE vb (d*1)) (eo (vk,r)):=⟨f.pc S⟩
 have j1:PC R (eE vr (j*1)) (di d):=hr.pc a7
 obtain⟨L1,L2,a8,g8,d4⟩:=zv hk
 have h6:=N.le
 refine .kn<|.seq<|.block<|.sr ?_
 refine .bG j hr a7 (λi6=>?_)
 refine .lo rfl<|.ag rfl<|.z<|.mo rfl ?_
 refine .nc rfl<|.fa rfl<|.lo rfl<|.mo rfl<|.q (.bG d f.sg S rfl rfl rfl) ?_
 refine .lo rfl<|.q (.bO N.sg) ?_
 refine .ag rfl<|.zs ?_
 refine bx.cZ [(6,_),(7,_),(8,_),(12,_),(28,_),(29,_),(30,_),(36,_),(37,_),(38,_),(42,_),(43,_),(44,_)] kE.c.c.c.c.c.c.c.c.c.c.c.c.c (X:=Unit) (λ_=>True) (λ_ E=>(72,.bool (!decide (d∈seen)))::E) (λ_=>[bl V (aZ.enc ⟨k0,I,vn,a0,vu,a1,U,ll,nm⟩) 95,To,LL.flatMap (·.2),Ta,Tw,Tv,bl M [s,iN e] 81]) ?_ ?_
 refine .region<|.mo rfl<|.q .bY<|.mo rfl ?_
 refine .split (t:=58) rfl (λa=>?_) (λa=>?_)
 have g4:r=[]:=by
  have h9:=bX a
  exact agQ (by omega)
 have b1:(!decide (d∈seen))=true:=by
  rw[g4]at J
  simp only[List.getLast?_nil]at J
  have:¬d∈seen:=λh=>by have:=J.2 h;cases this
  simp[this]
 rw[b1]
 refine .gF a<|.gF a<|.gF a<|.gF a<|.gF a<|.gF a<|.gF a<|.gF a<|.gF a<|.gF a<|.gF a<|.gF a<|.gF a<|.q (.aU a) ?_
 refine .nil ?_
 ·exact aG () trivial kE.c.c.c.c.c.c.c.c.c.c.c.c.c.c rH
 have h7:0<r.length:=by
  have h9:=bF a
  omega
 obtain⟨x,T⟩:∃x,r[r.length-1]? =some x:=⟨_,aV (by omega)⟩
 have i9:PS (LL.flatMap (·.2)) (eE vk ((r.length-1)*1)) (di x):=⟨(N.pc T).mono λb o hb=>List.mem_flatMap.2 ⟨_,aW hk,hb⟩⟩
 have b1:(!decide (d∈seen))=((x:Int) !=(i:Nat)):=by
  rw[List.getLast?_eq_getElem?,T]at J
  by_cases h:d∈seen
  ·have h2:=J.2 h
   injection h2 with h2
   simp[h,h2]
  ·have h2:¬x=i:=λe=>h (J.1 (by rw[e]))
   have W:¬((x:Int)=(i:Int)):=by omega
   rw[bne_iff_ne.2 W]
   simp[h]
 rw[b1]
 refine .gT a<|.mo rfl<|.gT a<|.nc rfl<|.gT a<|.fa rfl<|.gT a<|.lo rfl<|.gT a<|.mo rfl<|.gT a<|.q (.bG d f.sg S rfl rfl rfl) ?_
 refine .gT a<|.lo rfl<|.gT a<|.mo rfl<|.gT a ?_
 refine .ia (r.length-1) .sub ?_
 refine .gT a<|.q (.bG (r.length-1) N.sg T rfl rfl rfl) ?_
 refine .gT a<|.lo rfl<|.gT a<|.mo rfl<|.gT a<|.q .dZ<|.q (.aR a) ?_
 refine .nil ?_
 ·exact aG () trivial kE.c.c.c.c.c.c.c.c.c.c.c.c.c.c rH
 intro y hy
 refine aw ?_
 refine bx.cZ [(6,_),(7,_),(8,_),(28,_),(29,_),(30,_),(36,_),(37,_),(38,_),(42,_),(43,_),(44,_)] kE.c.c.c.c.c.c.c.c.c.c.c.c (X:=List iF×ax) (λy=>oI vb y.1 y.2/\y.1.map (·.1.2)=(List.range ps.length).map λj=>gL P i (seen++[d]) j) (λ_ E=>E) (λy=>[bl V (aZ.enc ⟨k0,I,vn,a0,vu,a1,U,ll,nm⟩) 95,y.2,y.1.flatMap (·.2),Ta,Tw,Tv,bl M [s,iN e] 81]) ?_ ?_
 refine .cond rfl (λh4=>?_) λh4=>?_
 have b3:¬d∈seen:=by simpa using h4
 refine bx.le (dB.refl _) (bz.eS (H':=[bl V (aZ.enc ⟨k0,I,vn,a0,vu,a1,U,ll,nm⟩) 95,To,Tk,L1.flatMap (·.2)++L2.flatMap (·.2),Ta,Tw,Tv,bl M [s,iN e] 81]) (by
  rw[a8]
  simp only[agL,List.flatMap_cons,agI,agJ,agt]
  refine .append_left _ (.append_left _ ?_)
  simp only[<-agM]
  refine .append_right _ (.append_right _ (.append_right _ (.append_right _ (.append_right _ ?_))))
  exact agK)) ?_
 refine .vx [1,1] [14,16] mixed ?_
 conv=>arg 3;simp only[take,rest,bM,agD,agE]
 conv=>arg 5;simp only[take,rest,bM,agD,agE]
 conv=>arg 9;simp only[take,rest,bM,agD,agE]
 refine .tK 0 rfl .move ?_
 refine .tK 1 rfl (.lG rfl) ?_
 refine .tK 2 rfl (.fG rfl) ?_
 refine .tK 3 rfl (.cm rfl)<|.tK 4 rfl .move<|.tO 5 rfl .move<|.tO 6 rfl (.nilCheck rfl)<|.tO 7 rfl (.fieldAddr rfl)<|.tO 8 rfl (.cm rfl)<|.tO 9 rfl .move ?_
 refine .tO 10 rfl (.bG d f.sg S rfl rfl rfl) ?_
 refine .tO 11 rfl (.cm rfl)<|.tO 12 rfl .move ?_
 refine .sT 13 rfl ?_
 refine .ki (λg7=>?_)
 refine .nil (Next.sub ?_)
 refine .sT 14 rfl ?_
 refine .append N (RS.lits (xs:=[i]) rfl (by simp[di]) (by simp[di,aB])) (by simp only[agB];omega) (λv5 T5 d7=>?_)
 obtain⟨e1,c5,rfl,_⟩:=d7.shape
 refine .nil (Next.mod rfl ?_)
 refine RA.aL 15 rfl d f S rfl rfl rfl (by kernel_rfl) (λi7=>?_)
 refine .sT 16 rfl ?_
 refine .du d f S ((.slice e1 (r++[i]).length c5,r++[i]):fW) (λTn e8=>?_)
 refine .nil (Next.mod rfl ?_)
 refine RA.nil (by kernel_rfl) ?_
 ·exact aG (LL.set d ((.slice e1 (r++[i]).length c5,r++[i]),T5),Tn) ⟨⟨by simp only;rw[List.map_set];exact e8,λq hq=>by
    simp only at hq
    rw[d4]at hq
    rcases List.mem_append.1 hq with hq|hq
    ·exact a2 q (by rw[a8];exact agr _ hq)
    ·rcases List.mem_cons.1 hq with rfl|hq
     ·exact d7
     ·exact a2 q (by rw[a8];exact agk _ (List.mem_cons_of_mem _ hq))⟩,by
    simp only
    refine PD k (λx T=>?_) d6
    rw[d5,d2]
    by_cases e:x=d
    ·subst e;rw[agj ⟨rfl,b3⟩,agj rfl]
    ·rw[agi λh=>e h.1,agi e]⟩ kE.c.c.c.c.c.c.c.c.c.c.c.c (by
    simp only
    rw[d4]
    refine(aQ [3,1,1,1,1,1,1,1]).trans (bz.eS ?_)
    simp only[take,rest,bM,agD,agE,agL,List.flatMap_cons,agI,agJ,agt,ags,agp]
    refine .cons _ (.append_left _ ?_)
    simp only[<-agM]
    refine .append_right _ (.append_right _ (.append_right _ (.append_right _ (.append_right _ ?_))))
    exact agK)
 have b3:d∈seen:=by simpa using h4
 refine .skip ?_
 ·exact aG (LL,To) ⟨⟨f,a2⟩,by
    simp only
    rw[k]
    refine agN λx _=>?_
    rw[d5,agi λh=>h.2 b3]⟩ kE.c.c.c.c.c.c.c.c.c.c.c.c rH
 intro x T
 obtain⟨e3,e5⟩:=x
 obtain⟨c0,b7⟩:=T
 simp only at c0 b7⊢
 rw[<-g2]at b7
 refine aX<|aw<|.region ?_
 refine .ia (j+1) .add ?_
 refine .mo rfl<|.nil ?_
 ·exact bm (j+1,e3,e5) ⟨c7,c0,b7⟩ (by simp only;omega) kE.c.c.c.c.c.c.c.c.c.c.c.c rH
 have f7:H.length<=j:=by have:=bF W;omega
 rw[dP f7, <-g6]at k
 refine .exit<|bo<|bs<|bp<|aX<|aw<|.region ?_
 refine .ia (m+1) .add ?_
 refine .mo rfl<|.nil ?_
 ·exact bm (m+1,LL,To) ⟨d0,D,k⟩ (by simp only;omega) kE.c.c.c.c.c.c.c.c.c rH
 have g1:ll.length<=m:=by have:=bF h2;omega
 rw[dP g1]at k
 have k:LL.map (·.1.2)=(List.range ps.length).map λj=>gL P (i+1) [] j:=by rw[k];exact agN λx _=>b0 x
 refine .exit<|bo<|bs<|bp<|aw<|.sr<|.fa rfl<|.lo rfl<|.zn ?_
 refine .cond rfl (λh5=>?_) λh5=>?_
 have f6:I=true:=h5
 subst f6
 refine .region<|.mo rfl<|.mo rfl ?_
 refine .call [3,3] (A8 sb s e us vv vb vw L Ta Tw O ps _ Q.rx g3 (qi P i) g (by rw[Al (by omega),a3]) (Y▸Z) i a4 (by omega)) (λu H' hu=>?_)
 obtain⟨e4,e6,e2,rfl,f1,f0,b9⟩:=hu
 rw[<-Y]at b9
 conv=>arg 8;simp only[rest,bM,ags,agp]
 refine .nil<|aX<|aw<|.region ?_
 refine .ia (i+1) .add ?_
 refine .mo rfl<|.nil ?_
 ·exact bm (i+1,e2,LL,(e4,e6,To)) ⟨a4,f1,by simp only;rw[a5];exact b9,by simp only;rw[a5];exact f0,D,k⟩ (by simp only;omega) kE.c.c.c.c (aQ [3,3,0,0,1,1])
 have f3:I=false:=h5
 subst f3
 refine .skip<|aX<|aw<|.region ?_
 refine .ia (i+1) .add ?_
 refine .mo rfl<|.nil ?_
 ·exact bm (i+1,L,LL,(Ta,Tw,To)) ⟨a4,O,by simp only;rw[a6 rfl];exact Z,by simp only;rw[a6 rfl];exact g,D,k⟩ (by simp only;omega) kE.c.c.c.c (aQ [1,1,1,1,1,1])
 have c3:i=ps.length:=by have:=bF h1;omega
 rw[c3, <-a3,O0]at Z g
 have k:LL.map (·.1.2)=(List.range ps.length).map (fD P):=by
  rw[k,c3]
  refine agN λx _=>?_
  rw[<-a3]
  exact congrFun (Co P) x
 refine .exit<|bo<|bs<|bp<|aw<|.sr<|.mo rfl<|.az rfl ?_
 refine .ret (bj _ (.one (.tmp rfl)) (aQ [2,2,2,0,0]) ?_)
 ·exact⟨sb,vv,vb,vw,L,LL,Ta,Tw,Tv,To,rfl,rfl,i1,i2,i3,O,Z,g,n,D,k⟩
structure lU(ps:List aZ)(us:ByteArray):Prop where
 ok:jL (ps.map aZ.plain) us
 tr:∀p∈ps,∀i,i<p.nodes.length->(tree isWord p.nodes (i+1)).isSome=true
 nl:∀p∈ps,p.nodes.length<=1000000
 rl:∀p∈ps,∀q∈p.ll,q.2.length<=1000000
 n:ps.length<=2000000
 ed:oa (ps.map aZ.plain)<=1000000000
theorem lU.ll{ps:List aZ}{us:ByteArray}(h:lU ps us):∀p∈ps,p.ll.length=p.nodes.length:=λp c=>by
 have:=h.ok.ln p.plain (agq.2 ⟨p,c,rfl⟩)
 have a:p.plain.leads.length=p.ll.length:=by unfold aZ.plain;simp
 have b:p.plain.nodes=p.nodes:=rfl
 rw[a,b]at this
 exact this
theorem lU.jl{ps:List aZ}{us:ByteArray}(h:lU ps us):∀p∈ps,∀q∈p.ll,∀j∈q.2,j<ps.length:=λp b q c j a=>by
 have:=h.ok.lt p.plain (agq.2 ⟨p,b,rfl⟩) j (List.mem_flatten.2 ⟨q.2,agq.2 ⟨q,c,rfl⟩,a⟩)
 rwa [agl]at this
def ez(b:Int)(K:Nat)(v:List Bool):List Bool×Nat×Int:=
 if b<1 then([],0,2)else if b<K then([],b.toNat+1,16)else(v,K,0)
theorem On(l:List Bool):dK l<=l.length:=List.countP_le_length
theorem dL.more{ps:List bI}{us:ByteArray}{K k:Nat}{s t:QS}(h:dL ps us K s)(a:iA s.2)(b:dL ps us k t)(d:¬iA t.2):k<K:=by
 rcases Nat.lt_trichotomy k K with h1|h1|h1
 ·exact h1
 ·subst h1
  rw[h.dR b]at a
  exact absurd a d
 ·obtain⟨u,i,f,c⟩:=b.vg h1
  have e:=h.dR f
  subst e
  have:=c.1
  rw[a i]at this
  cases this
theorem BD(f:Value)(e:Nat)(us:ByteArray)(ps:List aZ)(R:ay)(a8:RS R 8 aZ.enc f ps)(b8:∀p∈ps,p.is R)(D:lU ps us)(b:Int)(M:b<=9223372036854775807)(K:Nat)(s:QS)(hK:dL (ps.map aZ.plain) us K s)(hs:iA s.2):
  Spec prog 42 [.agg [f,iN e].toArray,.string us,.int .i64 b] R [] λu H'=>∃T,H'=[T]/\∃vo,u=.tuple [vo,.int .i64 ((ez b K s.1).2.1:Nat),.int .i64 (ez b K s.1).2.2].toArray/\OS 4 1 dT vo (ez b K s.1).1 T:=by
 have k7:=a8.aB
 have e8:∀p∈ps,∀u∈p.enc,aB u=true:=λp d=>(b8 p d).dg
 have e2:=D.n
 have e3:=D.ll
 have e0:=D.jl
 have e4:=D.nl
 have j3:=D.tr
 have e7:∀(i:Nat) (p:aZ),ps[i]? =some p->(ps.map aZ.plain)[i]? =some p.plain:=λi p d=>by rw[agm,d];rfl
 have e5:=QF f e us ps
 have j6:=A8
 have g8:=D.ed
 have a0:=D.ok
 have I:(ps.map aZ.plain).length=ps.length:=agl _
 have d3:∀i,∀k∈fD (ps.map aZ.plain) i,k<ps.length:=λi k hk=>by
  have:=(a0.ru hk).1
  rwa [I]at this
 have d4:∀i,(fD (ps.map aZ.plain) i).length<=ps.length:=λi=>by
  unfold fD
  refine agn (agz _ _) ?_
  rw[List.length_range,I]
  exact Nat.le_refl _
 have c0:=λk t (h:dL (ps.map aZ.plain) us k t)=>(h.inv a0).kP a0
 have d8:=λk t (h:dL (ps.map aZ.plain) us k t)=>h.inv a0
 have h8:iL (ps.map aZ.plain)<=2000000:=by
  unfold iL
  refine agn (On _) ?_
  rw[agl,I]
  exact e2
 have d6:∀(i:Nat) (p:aZ) (vf:Nat->Bool),ps[i]? =some p->(fj (ps.map aZ.plain) us).ex i vf=dt p.plain us vf p.nodes.length:=λi p vf d=>by
  show(match (ps.map aZ.plain)[i]? with|none=>false|some p=>dt p us vf p.nodes.length)=_
  rw[e7 i p d];rfl
 obtain⟨P,hP⟩:∃P,P=ps.map aZ.plain:=⟨_,rfl⟩
 rw[<-hP]at hK e7 g8 a0 d3 d4 c0 d8 h8 e5 I d6
 have k3:(List.replicate P.length false,kK P)=(List.replicate P.length false,P.map (·.found)):=rfl
 refine Spec.body func42 rfl results42 ntmps42 rfl<|.sr ?_
 refine .cx rfl (λb3=>?_)
 refine .ag rfl<|.ag rfl<|.ag rfl<|.zs<|.sr<|.mo rfl<|.q .lss<|.zn<|.cond rfl (λh1=>?_) λh1=>?_
 have N:b<1:=bX h1
 refine .sr<|.ag rfl<|.ag rfl<|.az rfl<|.ret (aK (bj _ (.three (.tmp rfl) (.tmp rfl) (.tmp rfl)) (bz.fH.trans (aQ [0])) ?_))
 ·exact⟨[],rfl,sZ,by unfold ez;rw[agj N];rfl,by unfold ez;rw[agj N];exact OS.nil⟩
 have N:¬b<1:=bF h1
 refine .kn<|.sr<|.q (.aT rfl)<|.mo rfl<|.call [] (e5 _ a8.rx (λp d=>(b8 p d).mono λb o M=>.inl M) e2 (λp d=>by rw[e3 p d];exact e4 p d) (λp d q hq=>⟨D.rl p d q hq,e0 p d q hq⟩)) (λu H' B=>?_)
 obtain⟨w,g,r,l,L,LL,O,Tw,Tv,To,rfl,rfl,i1,i2,i3,Q,J,a3,A,c9,j0⟩:=B
 conv=>arg 8;simp only[rest,bM,ags,agp]
 refine .ag rfl<|.z<|.ag rfl<|.zs<|.block<|.cF [(2,_),(3,_),(9,_)] (X:=Nat×(List Bool×List Bool)×List dA×(ax×ax×ax)) (λy=>dL P us y.1 y.2.1/\(y.1:Int)<=b/\QI w f e us g r l y.2.2.1 y.2.2.2.1/\QW P y.2.1.2 y.2.2.1/\OS 4 1 dT l y.2.1.2 y.2.2.2.2.1/\OS 4 1 dT g y.2.1.1 y.2.2.2.2.2) (λy E=>(10,iN y.1)::E) (λy G=>y.2.2.2.1::y.2.2.2.2.1::y.2.2.2.2.2::G) (λy=>iL P+oa P-y.1) (0,(List.replicate P.length false,kK P),L,(O,Tw,Tv)) ⟨.start,by simp only;omega,Q,J,a3,by simp only;rw[I];exact A⟩ kE.c.c.c.c rH ?_
 rintro⟨k,⟨v,q⟩,L,⟨O,Tw,Tv⟩⟩ ⟨W,h0,Q,J,a3,A⟩
 simp only at W h0 Q J a3 A⊢
 have k2:=c0 _ _ W
 have d9:=d8 _ _ W
 have f1:v.length=ps.length:=by rw[<-I];exact d9.l1
 have i9:q.length=ps.length:=by rw[<-I];exact d9.l2
 obtain⟨vq,Tq,b7,b2,g2⟩:=Q
 have Q:QI w f e us g r l L O:=⟨vq,Tq,b7,b2,g2⟩
 have i5:=b2.aB
 have l6:PS O (pT w) [f,iN e,.string us,g,r,l,vq]:=PS.of (E:=206) (fr:=(0,0)) (by rw[b7];simp)
 have j1:RS (sg O) 2 dA.enc vq L:=b2.rs λp d=>by rw[b7];exact agk _ d
 refine .seq<|.sr<|.mo rfl<|.nc rfl<|.fa rfl<|.lo rfl<|.ba (A7 vq L _ j1.nz) (λu B=>?_)
 subst B
 refine .q .gtr<|.zn<|.cond rfl (λh2=>?_) λh2=>?_
 have g1:0<L.length:=cy h2
 obtain⟨x,hx⟩:=bW g1
 obtain⟨h9,_,k5⟩:=yR J.p J.h hx
 have k1:k<K:=hK.more hs W λh=>by have:=h9.1;rw[h x.2]at this;cases this
 have j9:=c0 _ _ hK
 refine .kn<|.block<|.seq<|.sr<|.mo rfl<|.mo rfl<|.q .bY<|.zn<|.cond rfl (λh3=>?_) λh3=>?_
 have e1:(k:Int)=b:=by simpa using h3
 refine .sr<|.mo rfl<|.ia (k+1) .add<|.ag rfl<|.ag rfl<|.az rfl<|.ret (aK (br (cI (br (aK (bj _ (.three (.tmp rfl) (.tmp rfl) (.tmp rfl)) (bz.fH.trans (aQ [0])) ?_))))))
 ·have d2:b<(K:Int):=by omega
  exact⟨[],rfl,sZ,by unfold ez;rw[agi N,agj d2];simp only;rw[<-e1];rfl,by unfold ez;rw[agi N,agj d2];exact OS.nil⟩
 have e1:(k:Int)≠b:=by simpa using h3
 refine .kn<|.sr<|.mo rfl<|.ia (k+1) .add<|.ag rfl<|.z<|.mo rfl<|.call [0,0] (QG w f e us g r l L O Tw Q _ P q a3 J x hx) (λu H' B=>?_)
 obtain⟨Y,b0,a9,rfl,rfl,a5,b5,b6,e6,j7⟩:=B
 obtain⟨xa,i⟩:=x
 simp only at e6 j7 b5 b6
 conv=>arg 8;simp only[rest,bM,ags,agp]
 have d7:i<ps.length:=by omega
 obtain⟨bi,a7⟩:∃b,v[i]? =some b:=⟨_,aV (by omega)⟩
 have j4:v.getD i false=bi:=by rw[ago,a7];rfl
 obtain⟨p,d⟩:=bW d7
 have V:=aW d
 have k6:cC p.enc:=⟨e8 p V⟩
 have g9:=d6 i p (λj=>v.getD j false) d
 obtain⟨c3,f4,d0,c6,g3⟩:=a5
 have a5:QI w f e us g r l a9 Y:=⟨c3,f4,d0,c6,g3⟩
 have i6:=c6.aB
 have j8:PS Y (pT w) [f,iN e,.string us,g,r,l,c3]:=PS.of (E:=206) (fr:=(0,0)) (by rw[d0];simp)
 have F:=dL.step W e6
 have i4:qJ P us (v,q) i=if v.getD i false|| !(fj P us).ex i (λj=>v.getD j false)then(v,q.set i false)else(v.set i true,(fD P i).foldl (gI (v.set i true)) (q.set i false)):=rfl
 rw[i4,j4,g9]at F
 refine .ag rfl<|.zs<|.seq ?_
 refine bx.cZ [(2,_),(3,_),(9,_),(10,_),(11,_)] kE.c.c.c.c.c (X:=Unit) (λ_=>True) (λ_ E=>(50,.bool (bi|| !dt p.plain us (λj=>v.getD j false) p.nodes.length))::E) (λ_=>[Y,b0,Tv,To,LL.flatMap (·.2),bl b3 [f,iN e] 81]) ?_ ?_
 refine .region<|.mo rfl<|.nc rfl<|.fa rfl<|.lo rfl<|.mo rfl ?_
 refine .aL i A a7 (λk8=>?_)
 refine .lo rfl<|.mo rfl<|.split (t:=41) rfl (λa=>?_) (λa=>?_)
 refine .gF a<|.gF a<|.gF a<|.gF a<|.gF a<|.gF a<|.gF a<|.gF a<|.q (.aU a)<|.nil ?_
 ·exact aG () trivial (kE.c.c.c.c.c.ca rfl (by rw[a];rfl)) rH
 refine .gT a<|.mo rfl<|.gT a<|.fa rfl<|.gT a<|.lo rfl<|.gT a<|.mo rfl<|.gT a ?_
 refine .bG i a8 d (λk9=>?_)
 refine .gT a<|.q (.aT rfl)<|.gT a<|.ba (QK w f e us g r l c3 p v _ ((b8 p V).mono λb o M=>.inl M) (A.sg.nz) (j8.h.mono λb o M=>.inr (by simp[sg]at M;simp[M])) (e3 p V) (e4 p V) (λq hq j hj=>by rw[f1];exact e0 p V q hq j hj) (j3 p V)) (λu B=>?_)
 subst B
 refine .gT a<|.q .not<|.q (.aR a)<|.nil ?_
 ·exact aG () trivial (kE.c.c.c.c.c.ca rfl (by rw[a];rfl)) rH
 intro y hy
 refine aw<|.cond rfl (λh4=>?_) λh4=>?_
 rw[h4]at F
 simp only[if_true]at F
 refine .exit<|bo<|bp ?_
 ·exact bm (k+1,(v,q.set i false),a9,(Y,b0,Tv)) ⟨F,by simp only;omega,a5,b6,b5,A⟩ (by simp only;omega) kE.c.c.c.c rH
 rw[h4]at F
 simp only[agO,if_false]at F
 obtain⟨vk,Tk,hk⟩:=AG j0 d7
 have c5:=c9.1
 have a2:=c9.2 _ (aW hk)
 simp only at a2
 have i7:One vk:=a2.aB
 have e9:(LL.map (·.1))[i]? =some (vk,fD P i):=by rw[agm,hk];rfl
 have l4:PS To (eE r (i*1)) (eo (vk,fD P i)):=⟨c5.pc e9⟩
 have g7:=d3 i
 have k0:=d4 i
 generalize fD P i=row at *
 obtain⟨C,c2⟩:∃C,C=v.set i true:=⟨_,rfl⟩
 rw[<-c2]at F
 have k4:C.length=ps.length:=by rw[c2,List.length_set];exact f1
 have f0:RS (sg (LL.flatMap (·.2))) 1 di vk row:=a2.rs λp d=>List.mem_flatMap.2 ⟨_,aW hk,d⟩
 refine .kn<|.sr<|.mo rfl<|.nc rfl<|.fa rfl<|.lo rfl<|.mo rfl ?_
 refine .aL i A a7 (λl0=>?_)
 refine .du i A a7 true (λf6 b4=>?_)
 rw[<-c2]at b4
 refine .z<|.mo rfl<|.nc rfl<|.fa rfl<|.lo rfl<|.mo rfl<|.q (.bG i c5.sg e9 rfl rfl rfl)<|.lo rfl<|.q (.bO a2.sg)<|.mo rfl<|.zn<|.block<|.cF [(2,_),(3,_),(9,_),(10,_),(63,_),(64,_)] (X:=Nat×List Bool×List dA×(ax×ax)) (λy=>y.1<=row.length/\y.2.1=(row.take y.1).foldl (gI C) (q.set i false)/\QI w f e us g r l y.2.2.1 y.2.2.2.1/\QW P y.2.1 y.2.2.1/\OS 4 1 dT l y.2.1 y.2.2.2.2) (λy E=>(65,iN y.1)::E) (λy G=>y.2.2.2.1::y.2.2.2.2::G) (λy=>row.length-y.1) (0,q.set i false,a9,(Y,b0)) ⟨agu _,rfl,a5,b6,b5⟩ kE.c.c.c.c.c.c.c rH ?_
 rintro⟨m,H,L3,⟨Z,b1⟩⟩ ⟨hm,a1,S,a6,a4⟩
 simp only at hm a1 S a6 a4⊢
 have i0:H.length=ps.length:=by rw[a1,wo,List.length_set];exact i9
 obtain⟨f2,f5,d1,c7,g4⟩:=S
 have S:QI w f e us g r l L3 Z:=⟨f2,f5,d1,c7,g4⟩
 have i8:=c7.aB
 have l7:PS Z (pT w) [f,iN e,.string us,g,r,l,f2]:=PS.of (E:=206) (fr:=(0,0)) (by rw[d1];simp)
 refine .sr<|.q .lss<|.zs<|.cond rfl (λh5=>?_) λh5=>?_
 have c1:m<row.length:=cy h5
 obtain⟨t,ht⟩:=bW c1
 have j2:t<ps.length:=g7 t (aW ht)
 have l5:PS (LL.flatMap (·.2)) (eE vk (m*1)) (di t):=⟨f0.pc ht⟩
 obtain⟨bt,d5⟩:∃b,C[t]? =some b:=⟨_,aV (by omega)⟩
 have j5:C.getD t false=bt:=by rw[ago,d5];rfl
 have U:(row.take (m+1)).foldl (gI C) (q.set i false)=if bt then H else H.set t true:=by
  rw[ec ht,List.foldl_append, <-a1]
  show gI C H t=_
  unfold gI
  rw[j5]
 refine .kn<|.seq<|.block<|.sr<|.q (.bG m f0 ht rfl rfl rfl)<|.lo rfl<|.ag rfl<|.z<|.mo rfl<|.nc rfl<|.fa rfl<|.lo rfl<|.mo rfl ?_
 refine .aL t b4 d5 (λl3=>?_)
 refine .lo rfl<|.q .not<|.zn<|.cond rfl (λh6=>?_) λh6=>?_
 have b9:bt=false:=by simpa using h6
 rw[b9]at U
 simp only[agO,if_false]at U
 refine .region<|.mo rfl<|.mo rfl<|.call [0,0] (j6 w f e us g r l L3 Z b1 S ps _ a8.rx e8 H a4 i0 (hP▸a6) t j2 (by omega)) (λu H' B=>?_)
 obtain⟨f3,f7,L4,rfl,g6,g5,c8⟩:=B
 rw[<-hP]at c8
 conv=>arg 8;simp only[rest,bM,ags,agp]
 refine .nil<|aX<|aw<|.region<|.ia (m+1) .add<|.mo rfl<|.nil ?_
 ·exact bm (m+1,H.set t true,L4,(f3,f7)) ⟨c1,U.symm,g6,c8,g5⟩ (by simp only;omega) kE.c.c.c.c.c.c.c rH
 have b9:bt=true:=by simpa using h6
 rw[b9]at U
 simp only[if_true]at U
 refine .skip<|aX<|aw<|.region<|.ia (m+1) .add<|.mo rfl<|.nil ?_
 ·exact bm (m+1,H,L3,(Z,b1)) ⟨c1,U.symm,S,a6,a4⟩ (by simp only;omega) kE.c.c.c.c.c.c.c rH
 have h7:row.length<=m:=by have:=bF h5;omega
 rw[dP h7]at a1
 refine .exit<|bo<|bs<|bp<|aX ?_
 ·exact bm (k+1,(C,H),L3,(Z,b1,f6)) ⟨by rw[a1];exact F,by simp only;omega,S,a6,a4,b4⟩ (by simp only;omega) kE.c.c.c.c rH
 have g0:L=[]:=agQ (by have:=bF h2;omega)
 obtain⟨f8,f9⟩:=hK.last hs W (Na J.p g0)
 have c4:¬b<(K:Int):=by omega
 refine .exit<|bo<|bs<|bp<|aw<|.sr<|.mo rfl<|.nc rfl<|.fa rfl<|.lo rfl<|.mo rfl<|.ag rfl<|.ag rfl<|.az rfl<|.ret (bj _ (.three (.tmp rfl) (.tmp rfl) (.tmp rfl)) (aQ [2]) ?_)
 ·exact⟨Tv,rfl,g,by unfold ez;rw[agi N,agi c4,f8],by unfold ez;rw[agi N,agi c4,f9];exact A⟩
def aZ.zero(k:bc):aZ:=⟨k,false,sZ,[],sZ,[],sZ,[],0⟩
def dd(S:cX)(L:List bC)(rev:Int)(k:bc):List Sub:=if scan S rev then(L.filter λy=>y.there rev&&decide (y.t.db=k)).map (·.t.sub)else []
structure WS(R:ay)(cp:Cf)(c:bJ)(hb g x:Nat)(S:cX)(num:List Nat)(L:List bC):Prop where
 ci:c.is R
 pl:c.plain=cp
 h:∃vl e,HV R hb vl [e] 0/\e.rev=0/\e.c.plain=cp/\e.ll.map (·.2)=rows cp.bg num
 s:∃ps vf vr Mf Mr,SV R g S ps vf vr Mf Mr
 d:∃vL,DV R x S vL L
 rl:RL S L
 sW:fY S
 len:S.rows.length<=512
 m:lp isWord dj cp num
 nm:(cp.numbers isWord dj).2=rows cp.bg num
 pH:cp.bg.length<=5/\∀y∈cp.bg,y.bN.length<=6
theorem CC(c:Cf):(iH c).bg.length<=5/\∀y∈(iH c).bg,y.bN.length<=6:=by
 unfold iH
 refine⟨by simp only[agl,agP];omega,λy a=>?_⟩
 simp only at a
 obtain⟨s,_,rfl⟩:=agq.1 a
 unfold rJ
 simp only[agl,agP]
 omega
section
variable{R:ay}{cp:Cf}{c:bJ}{hb g x:Nat}{S:cX}{num:List Nat}{L:List bC}
theorem WS.ll(h:WS R cp c hb g x S num L):L.length<=512:=by rw[h.rl.pm.length_eq];exact h.len
theorem QX(S:cX)(L:List bC)(rev:Int):∃M:List (bc×Sub),M.length<=L.length/\(∀y∈M,∃r∈L,y=(r.t.db,r.t.sub))/\fL M=dd S L rev:=by
 refine⟨if scan S rev then(L.filter λy=>y.there rev).map λy=>(y.t.db,y.t.sub)else [],?_,?_,?_⟩
 ·split
  ·rw[agl];exact agz _ _
  ·simp
 ·intro y b
  split at b
  ·obtain⟨r,c,rfl⟩:=agq.1 b
   exact⟨r,(List.mem_filter.1 c).1,rfl⟩
  ·cases b
 ·funext k
  unfold fL dd
  split
  ·rw[List.filter_map,List.map_map,List.filter_filter]
   have:(λa:bC=>((λx:bc×Sub=>decide (x.1=k))∘λy:bC=>(y.t.db,y.t.sub)) a&&a.there rev)=λy:bC=>y.there rev&&decide (y.t.db=k):=by
    funext y
    simp[Bool.and_comm]
   rw[this]
   rfl
  ·rfl
theorem QV{rev:Int}{k:bc}{s:Sub}(h:s∈dd S L rev k):∃r∈L,s=r.t.sub:=by
 unfold dd at h
 split at h
 ·obtain⟨r,a,rfl⟩:=agq.1 h
  exact⟨r,(List.mem_filter.1 a).1,rfl⟩
 ·cases h
theorem WS.mc(h:WS R cp c hb g x S num L)(rev:Int)(k:bc)(i:Nat)(a:∀j,j<i->j<(opened cp num (dd S L rev) k j).1.length):(opened cp num (dd S L rev) k i).1.length+(opened cp num (dd S L rev) k i).2<=1048576:=by
 obtain⟨M,b,_,d⟩:=QX S L rev
 rw[<-d]at a⊢
 obtain⟨E,e,_⟩:=h.m.ex
 exact Rm e h.m.right h.m.dR h.pH.2 (agn b (agn h.ll (by decide))) k i a
theorem WS.fin(h:WS R cp c hb g x S num L)(rev:Int)(k:bc):∃N,eZ cp num (dd S L rev) k N:=by
 have d:∀k,∀s∈dd S L rev k,s∈L.map (·.t.sub):=λk s b=>by
  obtain⟨r,a,rfl⟩:=QV b
  exact agq.2 ⟨r,a,rfl⟩
 exact eZ.ex λi=>OC (O9 d) Qc i
theorem WS.sV(h:WS R cp c hb g x S num L)(rev:Int)(k:bc):(fitting cp (dd S L rev) k).length<=512:=by
 unfold fitting
 refine agn (agz _ _) ?_
 unfold dd
 split
 ·rw[agl]
  exact agn (agz _ _) h.ll
 ·simp
theorem WS.tu(h:WS R cp c hb g x S num L)(rev:Int)(k:bc)(n:Nd):(ei cp (dd S L rev) k n).length<=512:=by
 have a:∀k,(gz cp (dd S L rev) k).length<=512:=λk=>agn (agz _ _) (h.sV rev k)
 unfold ei
 split
 ·rw[agl];exact a _
 ·split
  ·rw[agl];exact a _
  ·split<;>simp
theorem WS.fO(h:WS R cp c hb g x S num L)(rev:Int)(D:0<=rev)(k:bc)(b:Int)(w:b<=9223372036854775807){N:Nat}(r:eZ cp num (dd S L rev) k N):
  Spec prog 34 [pT hb,pT g,.int .u64 rev,.agg [.string k.os,.string k.oi].toArray,.string k.rel,.int .i64 b] R [] (nG R (fO cp num (dd S L rev) k b (scan S rev) N)):=by
 obtain⟨J,e,u,y,z,f⟩:=h.h
 obtain⟨H,I,K,E,F,t⟩:=h.s
 have v:kh [e] rev=some e:=by
  unfold kh
  have:hl [e] rev 1=some 0:=by
   simp only[hl,List.getElem?_cons_zero,y]
   simp[D]
  rw[show([e]:List ee).length=1 from rfl,this]
  rfl
 have A:=h.mc rev k
 subst z
 exact xC u t h.rl (agn h.len (by decide)) rev e v num h.m f (by simp) (λa j=>by
  rw[List.mem_singleton]at j
  subst j
  have G:a.ll.length=a.c.plain.bg.length:=by rw[<-mO a.c.plain.bg num, <-f,agl]
  refine⟨by have:=h.pH.1;omega,λq B=>?_⟩
  have C:q.2∈rows a.c.plain.bg num:=by rw[<-f];exact agq.2 ⟨q,B,rfl⟩
  obtain⟨i,d,o⟩:=agC.1 C
  rw[mO]at d
  have l:=po (n:=num) (aV d)
  rw[aV (by rw[mO];exact d),o]at l
  have p:=Option.some.inj l
  rw[p,agP]
  have:=h.pH.2 _ (List.getElem_mem d)
  omega) k b w (dd S L rev) rfl A N r
end
theorem NJ(w:lV)(R:ay)(h:w.is R):Spec prog 14 [.agg w.enc.toArray] R [] λu H'=>∃T,H'=[T]/\∃(c:bJ) (p1 p2 p3:Value) (ok:Bool),u=.tuple [p1,p2,.agg c.enc.toArray,p3,.bool ok].toArray/\One p1/\One p2/\One p3/\c.is (λb o=>R b o\/(b,o)∈T)/\c.plain=iH w.c.plain/\ok=decide (((iH w.c.plain).numbers isWord dj).1=0)/\
  (ok=true->∃hb g x S num L,p1=pT hb/\p2=pT g/\p3=pT x/\WS (λb o=>R b o\/(b,o)∈T) (iH w.c.plain) c hb g x S num L):=by
 refine Spec.flat ((NK w R h).mono λu H' hu=>?_)
 rcases hu with hu|⟨T,c,x,rfl,rfl,k,a,l⟩
 ·obtain⟨d,f,i,j,hb,g,x,e,S,c,rfl,rfl,k,a,l,E,n,y,A,B,t,F⟩:=hu
  obtain⟨num,q,G⟩:=zW l
  refine⟨_,d++(f++(i++j)),rfl,by simp,_,rfl,c,_,_,_,true,rfl,⟨rfl⟩,⟨rfl⟩,⟨rfl⟩,k.mono λb o hb=>hb.imp id λhb=>agr _ hb,a,by rw[l];rfl,λ_=>?_⟩
  obtain⟨K,m⟩:=y.view (R:=λb o=>R b o\/(b,o)∈d++(f++(i++j))) λp a=>.inr (agk _ (agr _ a))
  obtain⟨H,J,M,r,s,C⟩:=A.view (R:=λb o=>R b o\/(b,o)∈d++(f++(i++j))) λp a=>.inr (agk _ (agk _ (agr _ a)))
  obtain⟨I,L,v,z⟩:=t.view (R:=λb o=>R b o\/(b,o)∈d++(f++(i++j))) λp a=>.inr (agk _ (agk _ (agk _ a)))
  have D:=m.all e (by simp)
  exact⟨hb,g,x,S,num,L,rfl,rfl,rfl,k.mono λb o hb=>hb.imp id λhb=>agr _ hb,a,⟨K,e,m,E,n,by rw[D.eq,n,q]⟩,⟨H,J,M,r,s,C⟩,⟨I,v⟩,z,B,F,G,q,CC _⟩
 ·exact⟨_,T,rfl,by simp,_,rfl,c,_,_,_,false,rfl,⟨rfl⟩,⟨rfl⟩,⟨rfl⟩,k,a,(decide_eq_false l).symm,λh=>(by cases h)⟩
theorem CY{W:ByteArray->Bool}{l:List Nd}(h:fN W l≠0):∀i,i<l.length->(tree W l (i+1)).isSome=true:=λi d=>by
 unfold fN at h
 cases ht:tree W l l.length with
 |none=>rw[ht]at h;exact absurd rfl h
 |some p=>
  obtain⟨b,x⟩:=p
  rw[ht]at h
  simp only at h
  have c:b=0:=by
   by_cases a:b=0
   ·exact a
   ·rw[agi a]at h;exact absurd rfl h
  subst c
  exact(iP _ _ ht).2.2.2 i (agu _) d
theorem Ow{W:ByteArray->Bool}{F:ByteArray->ByteArray->Bool}{c:Cf}{num:List Nat}{k:bc}(d:c.right W F=true):∀i,i<(one c num k).nodes.length->(tree W (one c num k).nodes (i+1)).isSome=true:=by
 unfold one
 split
 ·intro i a;exact absurd a (by simp)
 ·rename_i i a
  simp only[ago,agm]
  cases hy:c.all[i]? with
  |none=>intro i a;exact absurd a (by simp)
  |some y=>
   have b:=(nu d y (aW hy)).1
   unfold mM at b
   simp only[Bool.and_eq_true,bne_iff_ne,ne_eq]at b
   simp only[agA,agF]
   exact CY b.1.2
section
variable{R R':ay}{cp:Cf}{c:bJ}{hb g x:Nat}{S:cX}{num:List Nat}{L:List bC}
theorem WS.vS(h:WS R cp c hb g x S num L){rev:Int}{k:bc}{N:Nat}(b:eZ cp num (dd S L rev) k N){ps:List aZ}(e:ps.map aZ.plain=(opened cp num (dd S L rev) k N).1)(us:ByteArray):lU ps us:=by
 have f:=b.gr
 have C:∀p∈ps,p.plain∈(opened cp num (dd S L rev) k N).1:=λp a=>by rw[<-e];exact agq.2 ⟨p,a,rfl⟩
 have o:∀p∈ps,p.nodes=(one cp num p.k).nodes:=λp a=>(f.one p.plain (C p a)).2.1
 have I:=h.mc rev k N b.2
 have z:=b.xK
 have H:(opened cp num (dd S L rev) k N).1.length=ps.length:=by rw[<-e,agl]
 refine⟨by rw[e];exact h.m.ps b us,λp a=>by rw[o p a];exact Ow h.m.right,λp a=>by rw[o p a];exact agn (z0 h.m.right) (by decide),λp a q F=>?_,by omega,by rw[e,z];omega⟩
 obtain⟨i,A,s⟩:=agC.1 a
 have E:(opened cp num (dd S L rev) k N).1[i]? =some p.plain:=by rw[<-e,agm,aV A,s];rfl
 obtain⟨⟨t,v⟩,G⟩:=f.op i p.plain (by omega) E
 have u:p.ll.length=p.nodes.length:=by have:(p.ll.map (·.2)).length=p.nodes.length:=t;rwa [agl]at this
 obtain⟨j,l,r⟩:=agC.1 F
 have B:j<p.nodes.length:=by rw[<-u];exact l
 obtain⟨n,D⟩:∃n,p.nodes[j]? =some n:=⟨_,aV B⟩
 have d:=v j n D
 have w:(p.plain.leads.getD j [])=q.2:=by
  show((p.ll.map (·.2)).getD j [])=q.2
  rw[ago,agm,aV l,r];rfl
 rw[w]at d
 have y:=congrArg List.length d
 rw[agl,agl]at y
 have:=h.tu rev p.plain.k n
 omega
end
theorem tQ{P:Program}{f:FuncId}{c:List Value}{R a:ay}{H:aP}{out:List bI×Nat×Int}(h:Spec P f c a H (nG R out)):Spec P f c a H λu H'=>∃T,H'=[T]/\∃vp ps,u=.tuple [.agg [vp,iN out.2.1].toArray,.int .i64 out.2.2].toArray/\RS (λb o=>R b o\/(b,o)∈T) 8 aZ.enc vp ps/\(∀p∈ps,aZ.is (λb o=>R b o\/(b,o)∈T) p)/\ps.map aZ.plain=out.1:=h.mono λu H' g=>by
 obtain⟨vp,ps,T,d,e⟩:=g
 exact⟨T,d,vp,ps,e⟩
def kJ(us:ByteArray)(D:List bI×Nat×Int)(b:Int)(K:Nat)(v:List Bool):Bool×Int:=
 if eG us=false then(false,9)else if D.2.2≠0 then(false,D.2.2)
 else if(ez b K v).2.2≠0 then(false,(ez b K v).2.2)else((ez b K v).1.getD 0 false,0)
theorem C0{c:Cf}{num:List Nat}{sub:bc->List Sub}{k:bc}{b:Int}{can:Bool}{N:Nat}(h:(fO c num sub k b can N).2.2=0):(fO c num sub k b can N).1=(opened c num sub k N).1/\(fO c num sub k b can N).2.1=(opened c num sub k N).2/\1<=b:=by
 unfold fO at h⊢
 split
 ·rename_i a;rw[agj a]at h;cases h
 ·rename_i a
  rw[agi a]at h
  split
  ·rename_i d;rw[agj d]at h;cases h
  ·rename_i d
   rw[agi d]at h
   split
   ·exact⟨rfl,rfl,by omega⟩
   ·rename_i e;rw[agi e]at h;cases h
theorem OD(c:Cf)(num:List Nat)(sub:bc->List Sub)(k:bc)(N:Nat):0<(opened c num sub k N).1.length:=by
 have:=(sy (c:=c) (num:=num) (sub:=sub) (k:=k) (agu N)).1
 have a:(opened c num sub k 0).1.length=1:=by simp[opened]
 omega
theorem A6{ps:List bI}{us:ByteArray}{K:Nat}{s:QS}(ok:jL ps us)(e:dL ps us K s){b:Int}(a:(ez b K s.1).2.2=0):(ez b K s.1).1=s.1/\(ez b K s.1).1.length=ps.length:=by
 have f:=(e.inv ok).l1
 unfold ez at a⊢
 split
 ·rename_i c;rw[agj c]at a;cases a
 ·rename_i c
  rw[agi c]at a
  split
  ·rename_i d;rw[agj d]at a;cases a
  ·exact⟨rfl,f⟩
theorem Qy{R R':ay}{cp:Cf}{c:bJ}{d g x:Nat}{S:cX}{num:List Nat}{L:List bC}(h:WS R cp c d g x S num L)(rev:Int)(V:0<=rev)(k:bc)(us:ByteArray)(Y:us.size<=9223372036854775807)(b:Int)(z:b<=9223372036854775807){N:Nat}(w:eZ cp num (dd S L rev) k N){K:Nat}{s:QS}(n:dL (opened cp num (dd S L rev) k N).1 us K s)(W:iA s.2):
  Spec prog 26 [pT d,pT g,.int .u64 rev,.agg [.string k.os,.string k.oi].toArray,.string k.rel,.string us,.int .i64 b] R [] λu H'=>u=.tuple [.bool (kJ us (fO cp num (dd S L rev) k b (scan S rev) N) b K s.1).1,.int .i64 (kJ us (fO cp num (dd S L rev) k b (scan S rev) N) b K s.1).2].toArray/\H'=[]:=by
 have A:=h.fO rev V k b z w
 have X:=λ(ps:List aZ) e=>h.vS w (ps:=ps) e us
 have G:=C0 (c:=cp) (num:=num) (sub:=dd S L rev) (k:=k) (b:=b) (can:=scan S rev) (N:=N)
 have B:=OD cp num (dd S L rev) k N
 obtain⟨D,M⟩:∃D,D=fO cp num (dd S L rev) k b (scan S rev) N:=⟨_,rfl⟩
 rw[<-M]at A G⊢
 have a:kJ us D b K s.1=if eG us=false then(false,9)else if D.2.2≠0 then(false,D.2.2)
  else if(ez b K s.1).2.2≠0 then(false,(ez b K s.1).2.2)else((ez b K s.1).1.getD 0 false,0):=rfl
 generalize kJ us D b K s.1=out at *
 generalize (opened cp num (dd S L rev) k N).1=OP at *
 refine Spec.body func26 rfl results26 ntmps26 rfl<|.sr ?_
 refine .cx rfl (λa2=>?_)
 refine .ag rfl<|.ag rfl<|.zs<|.sr<|.mo rfl<|.ba ((qn us Y R).weaken da) (λu f=>?_)
 subst f
 refine .q .not<|.zn<|.cond rfl (λj=>?_) λj=>?_
 have t:eG us=false:=by simpa using j
 rw[agj t]at a
 subst a
 refine .sr<|.ag rfl<|.az rfl<|.ret (aK (bj _ (.two (.tmp rfl) (.tmp rfl)) (.none _) ?_))
 ·exact⟨rfl,rfl⟩
 have t:¬eG us=false:=by simpa using j
 rw[agi t]at a
 refine .kn<|.sr<|.mo rfl<|.mo rfl<|.mo rfl<|.q (.aT rfl)<|.mo rfl<|.mo rfl<|.dh ((tQ A).weaken da) (λu a0 f=>?_)
 obtain⟨vp,ps,rfl,C,Q,r⟩:=f
 have a7:=C.aB
 refine .mo rfl<|.q .extract<|.q .extract ?_
 refine .bU (λa3=>?_)
 refine .bP rfl rfl<|.ag rfl<|.zs<|.sr<|.mo rfl<|.q .dZ<|.zn<|.cond rfl (λl=>?_) λl=>?_
 have v:D.2.2≠0:=by simpa using l
 rw[agj v]at a
 subst a
 refine .sr<|.mo rfl<|.ag rfl<|.az rfl<|.ret (aK (bj _ (.two (.tmp rfl) (.tmp rfl)) (.none _) ?_))
 ·exact⟨rfl,rfl⟩
 have H:D.2.2=0:=by simpa using l
 rw[agi (by rw[H];simp)]at a
 obtain⟨Z,a5,a6⟩:=G H
 rw[Z]at r
 have F:=X ps r
 rw[<-r]at n B
 have E:=λJ=>A6 F.ok n (b:=b) J
 rw[agl]at B E
 refine .kn<|.sr<|.q (.aT rfl)<|.mo rfl<|.mo rfl<|.dh (BD vp _ us ps _ (C.mono λb o d=>d.elim .inl λd=>.inr (by simp[d])) (λp U=>(Q p U).mono λb o d=>d.elim .inl λd=>.inr (by simp[d])) F b z K s n W) (λu a1 f=>?_)
 obtain⟨vo,rfl,O⟩:=f
 refine .mo rfl<|.q .extract<|.q .extract<|.q .extract<|.ag rfl<|.ag rfl<|.ag rfl<|.zs<|.sr<|.mo rfl<|.q .dZ<|.zn<|.cond rfl (λm=>?_) λm=>?_
 have v:(ez b K s.1).2.2≠0:=by simpa using m
 rw[agj v]at a
 subst a
 refine .sr<|.mo rfl<|.ag rfl<|.az rfl<|.ret (aK (bj _ (.two (.tmp rfl) (.tmp rfl)) (.none _) ?_))
 ·exact⟨rfl,rfl⟩
 have I:(ez b K s.1).2.2=0:=by simpa using m
 rw[agi (by rw[I];simp)]at a
 obtain⟨_,a4⟩:=E I
 obtain⟨i,y⟩:∃i,(ez b K s.1).1[0]? =some i:=⟨_,aV (by omega)⟩
 have T:(ez b K s.1).1.getD 0 false=i:=by rw[ago,y];rfl
 rw[T]at a
 subst a
 refine .kn<|.sr<|.mo rfl ?_
 refine .aL 0 O y (λa8=>?_)
 refine .lo rfl<|.ag rfl<|.az rfl<|.ret (bj _ (.two (.tmp rfl) (.tmp rfl)) (.none _) ?_)
 ·exact⟨rfl,rfl⟩
theorem Rp{H:Type}{enc:TypeId×Value->H}{W:World}{f:Nat}{cs:List Value}{x:DataW H×List MemPlace}(h:DataW.trod enc prog W 0 (λ_=>true) true f 249 cs=some x):∃t:Ty,cs=t.enc/\t.fits:=by
 obtain⟨c,d⟩:=kx underlying249 h
 have j:prog.cellsOf 249=2:=by kernel_rfl
 rw[j]at c
 have e:prog.cellsOf 9=1:=by kernel_rfl
 match cs,c with
 |[a0,a1],_=>
  obtain⟨p,r,a⟩:∃n y,DataW.trod enc prog W 0 (λ_=>true) true n 9 (([a0,a1].drop 0).take (prog.cellsOf 9))=some y:=d 0 _ rfl
  obtain⟨q,s,b⟩:∃n y,DataW.trod enc prog W 0 (λ_=>true) true n 9 (([a0,a1].drop 1).take (prog.cellsOf 9))=some y:=d 1 _ rfl
  simp only[e,agv,agw,agx,agy]at a b
  obtain⟨m,g,k⟩:=kC a
  obtain⟨o,i,l⟩:=kC b
  cases g;cases i
  exact⟨⟨m,o⟩,rfl,k,l⟩
theorem NZ{H:Type}{enc:TypeId×Value->H}{W:World}{f:Nat}{cs:List Value}{x:DataW H×List MemPlace}(h:DataW.trod enc prog W 0 (λ_=>true) true f 199 cs=some x):∃t:Nd,cs=t.enc/\t.fits:=by
 obtain⟨i,a⟩:=kx underlying199 h
 have s:prog.cellsOf 199=5:=by kernel_rfl
 rw[s]at i
 have j:prog.cellsOf 3=1:=by kernel_rfl
 have l:prog.cellsOf 9=1:=by kernel_rfl
 match cs,i with
 |[a0,a1,a2,a3,a4],_=>
  obtain⟨D,J,b⟩:∃n y,DataW.trod enc prog W 0 (λ_=>true) true n 3 (([a0,a1,a2,a3,a4].drop 0).take (prog.cellsOf 3))=some y:=a 0 _ rfl
  obtain⟨E,K,c⟩:∃n y,DataW.trod enc prog W 0 (λ_=>true) true n 9 (([a0,a1,a2,a3,a4].drop 1).take (prog.cellsOf 9))=some y:=a 1 _ rfl
  obtain⟨F,L,d⟩:∃n y,DataW.trod enc prog W 0 (λ_=>true) true n 9 (([a0,a1,a2,a3,a4].drop 2).take (prog.cellsOf 9))=some y:=a 2 _ rfl
  obtain⟨G,M,e⟩:∃n y,DataW.trod enc prog W 0 (λ_=>true) true n 3 (([a0,a1,a2,a3,a4].drop 3).take (prog.cellsOf 3))=some y:=a 3 _ rfl
  obtain⟨I,N,g⟩:∃n y,DataW.trod enc prog W 0 (λ_=>true) true n 3 (([a0,a1,a2,a3,a4].drop 4).take (prog.cellsOf 3))=some y:=a 4 _ rfl
  simp only[j,l,agv,agw,agx,agy]at b c d e g
  obtain⟨A,m⟩:=rQ (k:=.i64) b
  obtain⟨w,o,u⟩:=kC c
  obtain⟨z,p,v⟩:=kC d
  obtain⟨B,q⟩:=rQ (k:=.i64) e
  obtain⟨C,r⟩:=rQ (k:=.i64) g
  cases m;cases o;cases p;cases q;cases r
  exact⟨⟨A,w,z,B,C⟩,rfl,u,v⟩
theorem P3{H:Type}{enc:TypeId×Value->H}{W:World}{f:Nat}{cs:List Value}{x:DataW H×List MemPlace}(h:DataW.trod enc prog W 0 (λ_=>true) true f 169 cs=some x):∃t:Sc,cs=t.enc/\t.fits:=by
 obtain⟨e,a⟩:=kx underlying169 h
 have m:prog.cellsOf 169=4:=by kernel_rfl
 rw[m]at e
 have i:prog.cellsOf 9=1:=by kernel_rfl
 have g:prog.cellsOf 44=2:=by kernel_rfl
 match cs,e with
 |[a0,a1,a2,a3],_=>
  obtain⟨z,C,b⟩:∃n y,DataW.trod enc prog W 0 (λ_=>true) true n 9 (([a0,a1,a2,a3].drop 0).take (prog.cellsOf 9))=some y:=a 0 _ rfl
  obtain⟨A,D,c⟩:∃n y,DataW.trod enc prog W 0 (λ_=>true) true n 44 (([a0,a1,a2,a3].drop 1).take (prog.cellsOf 44))=some y:=a 1 _ rfl
  obtain⟨B,E,d⟩:∃n y,DataW.trod enc prog W 0 (λ_=>true) true n 9 (([a0,a1,a2,a3].drop 3).take (prog.cellsOf 9))=some y:=a 2 _ rfl
  simp only[i,g,agv,agw,agx,agy]at b c d
  obtain⟨s,j,o⟩:=kC b
  obtain⟨u,v,k,p,q⟩:=qL c
  obtain⟨w,l,r⟩:=kC d
  cases j;cases k;cases l
  exact⟨⟨s,u,v,w⟩,rfl,o,p,q,r⟩
theorem Rr{H:Type}{enc:TypeId×Value->H}{W:World}{f:Nat}{cs:List Value}{x:DataW H×List MemPlace}(h:DataW.trod enc prog W 0 (λ_=>true) true f 165 cs=some x):∃v l,cs=[v]/\RS (Rw W) 2 Ty.enc v l/\∀t∈l,t.fits:=
 RS.nj (D:=λt:Ty=>t.fits) (sz:=2) (en:=Ty.enc) underlying165 (by kernel_rfl) (by omega) h λn cs x b=>by
  obtain⟨t,rfl,a⟩:=Rp b
  exact⟨rfl,(Ty.one t).h,t,rfl,a⟩
theorem N3{H:Type}{enc:TypeId×Value->H}{W:World}{f:Nat}{cs:List Value}{x:DataW H×List MemPlace}(h:DataW.trod enc prog W 0 (λ_=>true) true f 90 cs=some x):∃v l,cs=[v]/\RS (Rw W) 5 Nd.enc v l/\∀t∈l,t.fits:=
 RS.nj (D:=λt:Nd=>t.fits) (sz:=5) (en:=Nd.enc) underlying90 (by kernel_rfl) (by omega) h λn cs x b=>by
  obtain⟨t,rfl,a⟩:=NZ b
  exact⟨rfl,(Nd.one t).h,t,rfl,a⟩
theorem P9{H:Type}{enc:TypeId×Value->H}{W:World}{f:Nat}{cs:List Value}{x:DataW H×List MemPlace}(h:DataW.trod enc prog W 0 (λ_=>true) true f 23 cs=some x):∃v l,cs=[v]/\RS (Rw W) 4 Sc.enc v l/\∀t∈l,t.fits:=
 RS.nj (D:=λt:Sc=>t.fits) (sz:=4) (en:=Sc.enc) underlying23 (by kernel_rfl) (by omega) h λn cs x b=>by
  obtain⟨t,rfl,a⟩:=P3 b
  exact⟨rfl,(Sc.one t).h,t,rfl,a⟩
theorem Ps{H:Type}{enc:TypeId×Value->H}{W:World}{f:Nat}{cs:List Value}{x:DataW H×List MemPlace}(h:DataW.trod enc prog W 0 (λ_=>true) true f 167 cs=some x):∃t:cb,cs=t.enc/\t.is (Rw W):=by
 obtain⟨e,a⟩:=kx underlying167 h
 have q:prog.cellsOf 167=3:=by kernel_rfl
 rw[q]at e
 have i:prog.cellsOf 9=1:=by kernel_rfl
 have j:prog.cellsOf 90=1:=by kernel_rfl
 have g:prog.cellsOf 165=1:=by kernel_rfl
 match cs,e with
 |[a0,a1,a2],_=>
  obtain⟨A,F,b⟩:∃n y,DataW.trod enc prog W 0 (λ_=>true) true n 9 (([a0,a1,a2].drop 0).take (prog.cellsOf 9))=some y:=a 0 _ rfl
  obtain⟨B,G,c⟩:∃n y,DataW.trod enc prog W 0 (λ_=>true) true n 165 (([a0,a1,a2].drop 1).take (prog.cellsOf 165))=some y:=a 1 _ rfl
  obtain⟨C,I,d⟩:∃n y,DataW.trod enc prog W 0 (λ_=>true) true n 90 (([a0,a1,a2].drop 2).take (prog.cellsOf 90))=some y:=a 2 _ rfl
  simp only[i,j,g,agv,agw,agx,agy]at b c d
  obtain⟨z,k,r⟩:=kC b
  obtain⟨D,s,l,v,o⟩:=Rr c
  obtain⟨E,u,m,w,p⟩:=N3 d
  cases k;cases l;cases m
  exact⟨⟨_,_,⟨z,s,u⟩⟩,rfl,r,v,w,o,p⟩
theorem Pu{H:Type}{enc:TypeId×Value->H}{W:World}{f:Nat}{cs:List Value}{x:DataW H×List MemPlace}(h:DataW.trod enc prog W 0 (λ_=>true) true f 162 cs=some x):∃v l,cs=[v]/\RS (Rw W) 3 cb.enc v l/\∀t∈l,t.is (Rw W):=
 RS.nj (D:=λt:cb=>t.is (Rw W)) (sz:=3) (en:=cb.enc) underlying162 (by kernel_rfl) (by omega) h λn cs x b=>by
  obtain⟨t,rfl,a⟩:=Ps b
  exact⟨rfl,a.dg,t,rfl,a⟩
theorem QM{H:Type}{enc:TypeId×Value->H}{W:World}{f:Nat}{cs:List Value}{x:DataW H×List MemPlace}(h:DataW.trod enc prog W 0 (λ_=>true) true f 164 cs=some x):∃t:cq,cs=t.enc/\t.is (Rw W):=by
 obtain⟨c,d⟩:=kx underlying164 h
 have l:prog.cellsOf 164=2:=by kernel_rfl
 rw[l]at c
 have g:prog.cellsOf 9=1:=by kernel_rfl
 have e:prog.cellsOf 162=1:=by kernel_rfl
 match cs,c with
 |[a0,a1],_=>
  obtain⟨r,v,a⟩:∃n y,DataW.trod enc prog W 0 (λ_=>true) true n 9 (([a0,a1].drop 0).take (prog.cellsOf 9))=some y:=d 0 _ rfl
  obtain⟨s,w,b⟩:∃n y,DataW.trod enc prog W 0 (λ_=>true) true n 162 (([a0,a1].drop 1).take (prog.cellsOf 162))=some y:=d 1 _ rfl
  simp only[g,e,agv,agw,agx,agy]at a b
  obtain⟨q,i,m⟩:=kC a
  obtain⟨u,o,j,p,k⟩:=Pu b
  cases i;cases j
  exact⟨⟨q,_,o⟩,rfl,m,p,k⟩
theorem QO{H:Type}{enc:TypeId×Value->H}{W:World}{f:Nat}{cs:List Value}{x:DataW H×List MemPlace}(h:DataW.trod enc prog W 0 (λ_=>true) true f 22 cs=some x):∃v l,cs=[v]/\RS (Rw W) 2 cq.enc v l/\∀t∈l,t.is (Rw W):=
 RS.nj (D:=λt:cq=>t.is (Rw W)) (sz:=2) (en:=cq.enc) underlying22 (by kernel_rfl) (by omega) h λn cs x b=>by
  obtain⟨t,rfl,a⟩:=QM b
  exact⟨rfl,a.dg,t,rfl,a⟩
theorem CD{H:Type}{enc:TypeId×Value->H}{W:World}{f:Nat}{cs:List Value}{x:DataW H×List MemPlace}(h:DataW.trod enc prog W 0 (λ_=>true) true f 25 cs=some x):∃c:bJ,cs=c.enc/\c.is (Rw W):=by
 obtain⟨d,e⟩:=kx underlying25 h
 have o:prog.cellsOf 25=2:=by kernel_rfl
 rw[o]at d
 have g:prog.cellsOf 22=1:=by kernel_rfl
 have i:prog.cellsOf 23=1:=by kernel_rfl
 match cs,d with
 |[a0,a1],_=>
  obtain⟨t,z,a⟩:∃n y,DataW.trod enc prog W 0 (λ_=>true) true n 22 (([a0,a1].drop 0).take (prog.cellsOf 22))=some y:=e 0 _ rfl
  obtain⟨u,A,b⟩:∃n y,DataW.trod enc prog W 0 (λ_=>true) true n 23 (([a0,a1].drop 1).take (prog.cellsOf 23))=some y:=e 1 _ rfl
  simp only[g,i,agv,agw,agx,agy]at a b
  obtain⟨v,p,j,r,l⟩:=QO a
  obtain⟨w,q,k,s,m⟩:=P9 b
  cases j;cases k
  exact⟨⟨_,_,p,q⟩,rfl,r,s,l,m⟩
theorem RE{H:Type}{enc:TypeId×Value->H}{W:World}{f:Nat}{cs:List Value}{x:DataW H×List MemPlace}(h:DataW.trod enc prog W 0 (λ_=>true) true f 28 cs=some x):∃w:lV,cs=w.enc/\w.is (Rw W):=by
 obtain⟨e,g⟩:=kx underlying28 h
 have a:prog.cellsOf 28=3:=by kernel_rfl
 rw[a]at e
 have i:prog.cellsOf 25=2:=by kernel_rfl
 have j:prog.cellsOf 26=1:=by kernel_rfl
 match cs,e with
 |[a0,a1,a2],_=>
  obtain⟨q,t,b⟩:∃n y,DataW.trod enc prog W 0 (λ_=>true) true n 25 (([a0,a1,a2].drop 0).take (prog.cellsOf 25))=some y:=g 0 _ rfl
  obtain⟨r,u,d⟩:∃n y,DataW.trod enc prog W 0 (λ_=>true) true n 26 (([a0,a1,a2].drop 2).take (prog.cellsOf 26))=some y:=g 1 _ rfl
  simp only[i,j,agv,agw,agx,agy]at b d
  obtain⟨c,k,a⟩:=CD b
  obtain⟨s,o,l,p,m⟩:=P5 d
  cases k;cases l
  exact⟨⟨c,_,o⟩,rfl,a,p,m⟩
theorem Oh{p:bI}{us:ByteArray}{vf:Nat->Bool}{e:Nat}{n:Nd}(g:p.nodes[e]? =some n)(j:n.kind=1\/n.kind=2\/n.kind=3\/((n.kind=4\/n.kind=5\/n.kind=6)/\0<=n.a/\n.a.toNat<e/\0<=n.b/\n.b.toNat<e)):
  dt p us vf (e+1)=(if n.kind=1 then decide (us∈p.fU)||(p.leads.getD e []).any vf
   else if n.kind=4 then dt p us vf (n.a.toNat+1)||dt p us vf (n.b.toNat+1)
   else if n.kind=5 then dt p us vf (n.a.toNat+1)&&dt p us vf (n.b.toNat+1)
   else if n.kind=6 then dt p us vf (n.a.toNat+1)&& !dt p us vf (n.b.toNat+1)
   else(p.leads.getD e []).any vf):=by
 rw[dt]
 simp only[g]
 by_cases c:n.op=true
 ·have d:n.kind=4\/n.kind=5\/n.kind=6:=by
   unfold Nd.op at c
   simp only[Bool.or_eq_true,beq_iff_eq]at c
   omega
  have f:n.a.toNat+1<=e/\n.b.toNat+1<=e:=by omega
  simp only[c,if_true]
  rw[dif_pos f]
  rcases d with h|h|h<;>simp[h]
 ·have d:n.kind=1\/n.kind=2\/n.kind=3:=by
   unfold Nd.op at c
   simp only[Bool.or_eq_true,beq_iff_eq]at c
   omega
  have i:n.op=false:=by simpa using c
  simp only[i,agO,if_false]
  rw[w5]
  rcases d with h|h|h<;>simp[h]
def zK(l:List aZ):Nat:=l.foldl (λa p=>if a<p.number then p.number else a) 0
theorem zJ:∀(l:List aZ) (a:Nat),a<=l.foldl (λa p=>if a<p.number then p.number else a) a/\∀p∈l,p.number<=l.foldl (λa p=>if a<p.number then p.number else a) a
 |[],a=>⟨Nat.le_refl _,λp hp=>(by cases hp)⟩
 |x::l,a=>by
  obtain⟨b,c⟩:=zJ l (if a<x.number then x.number else a)
  rw[List.foldl_cons]
  refine⟨?_,λp hp=>?_⟩
  ·refine agn ?_ b
   split<;>omega
  ·rcases List.mem_cons.1 hp with rfl|hp
   ·refine agn ?_ b
    split<;>omega
   ·exact c p hp
def jb(b:Bool):List Value:=[.int .i64 1,.bool b,.int .i64 0,.string ⟨#[]⟩,sZ,sZ]
theorem ra.pH{R:ay}{cs:List Value}{j:J}(h:ra R cs j):cs.length=6:=by cases h;rfl
end Go.Proofs.YtdljmchhecoakaaGreat
