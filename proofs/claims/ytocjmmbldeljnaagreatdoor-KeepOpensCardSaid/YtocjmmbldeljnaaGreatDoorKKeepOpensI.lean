/- What the law 'KeepOpens' uses. No condition. -/
import Derived.Test.YtocjmmbldeljnaaGreatDoorKKeepOpensA
import Derived.Test.YtocjmmbldeljnaaGreatDoorKKeepOpensB
import Derived.Test.YtocjmmbldeljnaaGreatDoorKKeepOpensE
import Derived.Test.YtocjmmbldeljnaaGreatDoorKKeepOpensF
set_option linter.unusedSimpArgs false
set_option linter.unusedVariables false
namespace Go.Proofs.YtocjmmbldeljnaaGreatDoor
open Tryz
set_option linter.unusedVariables false
set_option linter.unusedSimpArgs false
set_option maxRecDepth 4000
def eW:List dk:=[0x00000000,0x1db71064,0x3b6e20c8,0x26d930ac,0x76dc4190,0x6b6b51f4,0x4db26158,0x5005713c,0xedb88320,0xf00f9344,0xd6d6a3e8,0xcb61b38c,0x9b64c2b0,0x86d3d2d4,0xa00ae278,0xbdbdf21c]
def w8(c:UInt8):dk:=c.toBitVec.setWidth 32
def o1(x c:dk):dk:=eW.getD ((x^^^c)&&&15#32).toNat 0^^^x>>>4
def mH(x:dk)(c:UInt8):dk:=o1 (o1 x (w8 c)) (w8 (UInt8.ofNat (c.toNat/16)))
def nj(s:dk)(b:List UInt8):dk:= ~~~ (b.foldl mH (~~~ s))
theorem rI(x:dk):(x&&&15#32).toNat<16:=by
 rw[BitVec.toNat_and]
 exact Nat.lt_of_le_of_lt Nat.and_le_right (by decide)
theorem wK(x:dk):eW[(x&&&15#32).toNat]? =some (eW.getD (x&&&15#32).toNat 0):=by
 have h:=rI x
 rw[List.getD_eq_getElem?_getD,bd (show _<eW.length from h)]
 rfl
theorem Pb(c:UInt8):Int.fdiv (c.toNat:Int) (2^min ((4:Int)).toNat IntKind.u8.bits)=((UInt8.ofNat (c.toNat/16)).toNat:Int):=by
 have h:=c.toNat_lt
 have e:min ((4:Int)).toNat IntKind.u8.bits=4:=by decide
 rw[e,Int.fdiv_eq_ediv_of_nonneg _ (by decide)]
 have a:(UInt8.ofNat (c.toNat/16)).toNat=c.toNat/16:=by
  rw[UInt8.toNat_ofNat']
  omega
 rw[a]
 omega
theorem wT(s:dk)(v:Value)(b:List UInt8)(R:ao)(h:RS R 1 bS v b)(l:PC R (pT 1) (wv eW)):Spec prog 404 [.int .u32 (s.toNat:Int),v] R [] λu H'=>u=.int .u32 ((nj s b).toNat:Int)/\H'=[]:=by
 have p:=h.ay
 have o:=h.le
 refine Spec.body func404 rfl results404 ntmps404 rfl ?_
 refine .sr<|.ag rfl<|.z<|.mo rfl<|.q (.uW rfl) ?_
 refine .ag rfl<|.zs<|.sr<|.mo rfl<|.q (.cv h) ?_
 refine .mo rfl<|.zn<|.block ?_
 refine .ik [(10,_),(11,_)] (X:=Nat) (λi=>i<=b.length) (λi E=>(12,iN i)::(5,.int .u32 (((b.take i).foldl mH (~~~ s)).toNat:Int))::E) (λ_ G=>G) (λi=>b.length-i) 0 (Nat.zero_le _) kE.c.c.c.c rH ?_
 intro i m
 refine .sr<|.q .lss<|.zs ?_
 refine .cond rfl (λa=>?_) λa=>?_
 have e:i<b.length:=by have g:=bp a;omega
 obtain⟨c,d⟩:=dM e
 have f:(b.take (i+1)).foldl mH (~~~ s)=mH ((b.take i).foldl mH (~~~ s)) c:=by
  rw[List.take_add_one,d,List.foldl_append];rfl
 obtain⟨x,k⟩:∃x,x=(b.take i).foldl mH (~~~ s):=⟨_,rfl⟩
 rw[<-k]at f⊢
 refine .kn<|.seq<|.block<|.sr ?_
 refine .cB i h d (λr=>?_)
 refine .lo rfl<|.ag rfl<|.z<|.mo rfl<|.mo rfl<|.q (.wide rfl) ?_
 refine .q (.ru rfl rfl) ?_
 refine .q (.uv (b:=15#32) rfl rfl) ?_
 refine .q (.wM ((x^^^w8 c)&&&15#32).toNat (rI _) rfl rfl rfl) ?_
 refine .q (.bo rfl (vh (yZ (wK (x^^^w8 c))))) ?_
 refine .mo rfl ?_
 refine .q (.yl (n:=4) rfl rfl (by decide)) ?_
 refine .q (.cast (v':=.int .u32 ((o1 x (w8 c)).toNat:Int)) (.ru rfl rfl) rfl) ?_
 refine .az rfl<|.region<|.mo rfl<|.mo rfl<|.q (.cast (v':=.int .u8 ((UInt8.ofNat (c.toNat/16)).toNat:Int)) (.pI rfl rfl) (congrArg (Value.int .u8) (Pb c))) ?_
 refine .q (.wide rfl) ?_
 refine .q (.ru rfl rfl) ?_
 refine .q (.uv (b:=15#32) rfl rfl) ?_
 refine .q (.wM ((o1 x (w8 c)^^^w8 (UInt8.ofNat (c.toNat/16)))&&&15#32).toNat (rI _) rfl rfl rfl) ?_
 refine .q (.bo rfl (vh (yZ (wK (o1 x (w8 c)^^^w8 (UInt8.ofNat (c.toNat/16))))))) ?_
 refine .mo rfl ?_
 refine .q (.yl (n:=4) rfl rfl (by decide)) ?_
 refine .q (.cast (v':=.int .u32 ((mH x c).toNat:Int)) (.ru rfl rfl) rfl) ?_
 rw[<-f]
 refine .ag rfl<|.nil<|bz<|aG<|.region ?_
 refine .ia (i+1) .add ?_
 refine .mo rfl<|.nil ?_
 ·exact br (i+1) e (by omega) kE.c.c.c.c rH
 have j:i=b.length:=by have g:=ba a;omega
 rw[j,List.take_length]
 refine .exit<|bk<|bw<|bq<|aG<|.sr<|.mo rfl<|.q (.uW rfl) ?_
 refine .az rfl ?_
 refine .ret (aW rfl ?_)
 ·exact⟨rfl,rfl⟩
theorem MK(v:Value)(b:List UInt8)(R:ao)(h:RS R 1 bS v b)(c:PC R (pT 1) (wv eW)):Spec prog 405 [v] R [] λu H'=>u=.int .u32 ((nj 0#32 b).toNat:Int)/\H'=[]:=by
 have e:=h.ay
 refine Spec.body func405 rfl results405 ntmps405 rfl ?_
 refine .sr<|.ag rfl<|.z<|.mo rfl ?_
 refine .aH (wT 0#32 v b _ h.rx (c.mono λb o a=>.inl a)) (λu d=>?_)
 subst d
 refine .az rfl ?_
 refine .ret (aW rfl ?_)
 ·exact⟨rfl,rfl⟩
end Go.Proofs.YtocjmmbldeljnaaGreatDoor
