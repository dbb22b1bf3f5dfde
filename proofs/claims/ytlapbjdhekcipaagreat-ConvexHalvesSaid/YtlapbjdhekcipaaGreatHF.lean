import Derived.Test.YtlapbjdhekcipaaGreatProg
import Derived.Shelf.Abstract
import Derived.Test.YtlapbjdhekcipaaGreatHE
set_option linter.unusedVariables false
set_option linter.unusedSimpArgs false
namespace Go.Proofs.YtlapbjdhekcipaaGreat
open Go Go.Ae
def tt:TT:=fun t=>match t with
 | 1=>some ⟨1,8,.other,[.nilFunc]⟩
 | 2=>some ⟨1,8,.int .i64,[.int .i64 0]⟩
 | 3=>some ⟨1,8,.int .i64,[.int .i64 0]⟩
 | 4=>some ⟨1,1,.bool,[.bool false]⟩
 | 5=>some ⟨1,1,.int .u8,[.int .u8 0]⟩
 | 6=>some ⟨1,1,.int .u8,[.int .u8 0]⟩
 | 7=>some ⟨4,24,.struct [(0,1,false),(1,1,false),(2,1,false),(3,1,false)],[.int .i64 0,.int .i64 0,.bool false,.int .u8 0]⟩
 | 8=>some ⟨4,24,.struct [(0,1,false),(1,1,false),(2,1,false),(3,1,false)],[.int .i64 0,.int .i64 0,.bool false,.int .u8 0]⟩
 | 9=>some ⟨1,16,.str,[.string ⟨#[]⟩]⟩
 | 10=>some ⟨1,16,.str,[.string ⟨#[]⟩]⟩
 | 11=>some ⟨1,16,.str,[.string ⟨#[]⟩]⟩
 | 12=>some ⟨1,8,.int .u64,[.int .u64 0]⟩
 | 13=>some ⟨2,24,.struct [(0,1,false),(1,1,false)],[.string ⟨#[]⟩,.int .u64 0]⟩
 | 14=>some ⟨2,24,.struct [(0,1,false),(1,1,false)],[.string ⟨#[]⟩,.int .u64 0]⟩
 | 18=>some ⟨1,8,.struct [(0,1,false)],[.pointer none]⟩
 | 19=>some ⟨1,8,.struct [(0,1,false)],[.pointer none]⟩
 | 21=>some ⟨1,4,.int .i32,[.int .i32 0]⟩
 | 22=>some ⟨1,24,.slice 26,[.slice none 0 0]⟩
 | 23=>some ⟨3,40,.struct [(0,1,false),(1,1,false),(2,1,false)],[.bool false,.string ⟨#[]⟩,.string ⟨#[]⟩]⟩
 | 24=>some ⟨3,40,.struct [(0,1,false),(1,1,false),(2,1,false)],[.bool false,.string ⟨#[]⟩,.string ⟨#[]⟩]⟩
 | 25=>some ⟨6,80,.struct [(0,3,true),(3,3,true)],[.bool false,.string ⟨#[]⟩,.string ⟨#[]⟩,.bool false,.string ⟨#[]⟩,.string ⟨#[]⟩]⟩
 | 26=>some ⟨6,80,.struct [(0,3,true),(3,3,true)],[.bool false,.string ⟨#[]⟩,.string ⟨#[]⟩,.bool false,.string ⟨#[]⟩,.string ⟨#[]⟩]⟩
 | 27=>some ⟨1,8,.other,[.nilFunc]⟩
 | 28=>some ⟨1,8,.other,[.nilFunc]⟩
 | 29=>some ⟨1,8,.int .i64,[.int .i64 0]⟩
 | 31=>some ⟨1,8,.other,[.nilFunc]⟩
 | 32=>some ⟨1,8,.other,[.nilFunc]⟩
 | 33=>some ⟨1,8,.other,[.nilFunc]⟩
 | 34=>some ⟨1,8,.other,[.nilFunc]⟩
 | 36=>some ⟨1,8,.other,[.nilFunc]⟩
 | 38=>some ⟨1,8,.other,[.nilFunc]⟩
 | 39=>some ⟨12,160,.struct [(0,6,true),(6,6,true)],[.bool false,.string ⟨#[]⟩,.string ⟨#[]⟩,.bool false,.string ⟨#[]⟩,.string ⟨#[]⟩,.bool false,.string ⟨#[]⟩,.string ⟨#[]⟩,.bool false,.string ⟨#[]⟩,.string ⟨#[]⟩]⟩
 | 40=>some ⟨12,160,.struct [(0,6,true),(6,6,true)],[.bool false,.string ⟨#[]⟩,.string ⟨#[]⟩,.bool false,.string ⟨#[]⟩,.string ⟨#[]⟩,.bool false,.string ⟨#[]⟩,.string ⟨#[]⟩,.bool false,.string ⟨#[]⟩,.string ⟨#[]⟩]⟩
 | 41=>some ⟨1,8,.other,[.nilFunc]⟩
 | 42=>some ⟨1,8,.other,[.nilFunc]⟩
 | 43=>some ⟨1,8,.other,[.nilFunc]⟩
 | 44=>some ⟨1,8,.other,[.nilFunc]⟩
 | 45=>some ⟨1,8,.other,[.nilFunc]⟩
 | 47=>some ⟨1,8,.other,[.nilFunc]⟩
 | 48=>some ⟨1,8,.other,[.nilFunc]⟩
 | 49=>some ⟨1,8,.other,[.nilFunc]⟩
 | 50=>some ⟨1,8,.other,[.nilFunc]⟩
 | 51=>some ⟨1,8,.other,[.nilFunc]⟩
 | 52=>some ⟨1,8,.other,[.nilFunc]⟩
 | 53=>some ⟨1,8,.other,[.nilFunc]⟩
 | 54=>some ⟨1,8,.other,[.nilFunc]⟩
 | 55=>some ⟨1,24,.slice 24,[.slice none 0 0]⟩
 | 56=>some ⟨1,8,.other,[.nilFunc]⟩
 | 57=>some ⟨1,8,.other,[.nilFunc]⟩
 | 59=>some ⟨1,8,.other,[.nilFunc]⟩
 | 61=>some ⟨1,8,.other,[.nilFunc]⟩
 | 62=>some ⟨1,8,.other,[.nilFunc]⟩
 | 63=>some ⟨1,8,.other,[.nilFunc]⟩
 | 64=>some ⟨1,8,.other,[.nilFunc]⟩
 | 65=>some ⟨1,8,.other,[.nilFunc]⟩
 | 67=>some ⟨1,8,.other,[.nilFunc]⟩
 | 68=>some ⟨1,24,.slice 22,[.slice none 0 0]⟩
 | 69=>some ⟨1,8,.other,[.nilFunc]⟩
 | 70=>some ⟨1,8,.other,[.nilFunc]⟩
 | 71=>some ⟨1,8,.other,[.nilFunc]⟩
 | 72=>some ⟨1,8,.other,[.nilFunc]⟩
 | 73=>some ⟨1,8,.other,[.nilFunc]⟩
 | 74=>some ⟨1,8,.other,[.nilFunc]⟩
 | 75=>some ⟨1,8,.other,[.nilFunc]⟩
 | 76=>some ⟨1,8,.other,[.nilFunc]⟩
 | 77=>some ⟨1,8,.other,[.nilFunc]⟩
 | 78=>some ⟨1,8,.other,[.nilFunc]⟩
 | 79=>some ⟨1,8,.other,[.nilFunc]⟩
 | 80=>some ⟨1,8,.other,[.nilFunc]⟩
 | 81=>some ⟨1,8,.other,[.nilFunc]⟩
 | 82=>some ⟨1,8,.other,[.nilFunc]⟩
 | 83=>some ⟨1,8,.other,[.nilFunc]⟩
 | 84=>some ⟨1,8,.other,[.nilFunc]⟩
 | 85=>some ⟨1,8,.other,[.nilFunc]⟩
 | 86=>some ⟨1,8,.other,[.nilFunc]⟩
 | 88=>some ⟨1,8,.other,[.nilFunc]⟩
 | 89=>some ⟨1,8,.other,[.nilFunc]⟩
 | 90=>some ⟨1,8,.other,[.nilFunc]⟩
 | 91=>some ⟨1,8,.other,[.nilFunc]⟩
 | 92=>some ⟨2,24,.struct [(0,1,false),(1,1,false)],[.bool false,.string ⟨#[]⟩]⟩
 | 93=>some ⟨2,24,.struct [(0,1,false),(1,1,false)],[.bool false,.string ⟨#[]⟩]⟩
 | 94=>some ⟨1,8,.other,[.nilFunc]⟩
 | 95=>some ⟨1,8,.other,[.nilFunc]⟩
 | 96=>some ⟨4,48,.struct [(0,2,true),(2,2,true)],[.bool false,.string ⟨#[]⟩,.bool false,.string ⟨#[]⟩]⟩
 | 97=>some ⟨4,48,.struct [(0,2,true),(2,2,true)],[.bool false,.string ⟨#[]⟩,.bool false,.string ⟨#[]⟩]⟩
 | 98=>some ⟨1,8,.other,[.nilFunc]⟩
 | 99=>some ⟨1,8,.other,[.nilFunc]⟩
 | 100=>some ⟨1,8,.other,[.nilFunc]⟩
 | 101=>some ⟨1,8,.other,[.nilFunc]⟩
 | 102=>some ⟨1,8,.other,[.nilFunc]⟩
 | 103=>some ⟨1,8,.other,[.nilFunc]⟩
 | 104=>some ⟨1,8,.other,[.nilFunc]⟩
 | 105=>some ⟨1,8,.other,[.nilFunc]⟩
 | 106=>some ⟨1,8,.other,[.nilFunc]⟩
 | 107=>some ⟨1,8,.other,[.nilFunc]⟩
 | 108=>some ⟨1,8,.other,[.nilFunc]⟩
 | 110=>some ⟨1,8,.other,[.nilFunc]⟩
 | 111=>some ⟨1,8,.other,[.nilFunc]⟩
 | 112=>some ⟨1,8,.other,[.nilFunc]⟩
 | 113=>some ⟨1,8,.other,[.nilFunc]⟩
 | 114=>some ⟨1,8,.other,[.nilFunc]⟩
 | 115=>some ⟨1,24,.slice 3,[.slice none 0 0]⟩
 | 116=>some ⟨1,8,.other,[.nilFunc]⟩
 | 117=>some ⟨1,8,.other,[.nilFunc]⟩
 | 118=>some ⟨1,8,.other,[.nilFunc]⟩
 | 119=>some ⟨1,8,.other,[.nilFunc]⟩
 | 120=>some ⟨9,120,.struct [(0,3,true),(3,3,true),(6,3,true)],[.bool false,.string ⟨#[]⟩,.string ⟨#[]⟩,.bool false,.string ⟨#[]⟩,.string ⟨#[]⟩,.bool false,.string ⟨#[]⟩,.string ⟨#[]⟩]⟩
 | 121=>some ⟨9,120,.struct [(0,3,true),(3,3,true),(6,3,true)],[.bool false,.string ⟨#[]⟩,.string ⟨#[]⟩,.bool false,.string ⟨#[]⟩,.string ⟨#[]⟩,.bool false,.string ⟨#[]⟩,.string ⟨#[]⟩]⟩
 | 123=>some ⟨1,8,.other,[.nilFunc]⟩
 | 124=>some ⟨1,8,.other,[.nilFunc]⟩
 | 125=>some ⟨1,8,.other,[.nilFunc]⟩
 | 126=>some ⟨1,8,.other,[.nilFunc]⟩
 | 127=>some ⟨1,8,.other,[.nilFunc]⟩
 | 128=>some ⟨1,8,.other,[.nilFunc]⟩
 | 129=>some ⟨1,8,.int .u64,[.int .u64 0]⟩
 | 130=>some ⟨1,8,.other,[.nilFunc]⟩
 | 131=>some ⟨1,4,.int .u32,[.int .u32 0]⟩
 | 132=>some ⟨1,8,.int .u64,[.int .u64 0]⟩
 | 133=>some ⟨1,24,.slice 131,[.slice none 0 0]⟩
 | 134=>some ⟨1,24,.slice 131,[.slice none 0 0]⟩
 | 135=>some ⟨1,8,.other,[.nilFunc]⟩
 | 137=>some ⟨1,8,.other,[.nilFunc]⟩
 | 138=>some ⟨1,8,.other,[.nilFunc]⟩
 | 139=>some ⟨1,8,.other,[.nilFunc]⟩
 | 140=>some ⟨1,8,.other,[.nilFunc]⟩
 | 142=>some ⟨1,8,.other,[.nilFunc]⟩
 | 143=>some ⟨1,8,.other,[.nilFunc]⟩
 | 144=>some ⟨1,8,.other,[.nilFunc]⟩
 | 146=>some ⟨1,8,.other,[.nilFunc]⟩
 | 147=>some ⟨1,8,.other,[.nilFunc]⟩
 | 148=>some ⟨1,8,.other,[.nilFunc]⟩
 | 149=>some ⟨1,8,.other,[.nilFunc]⟩
 | 150=>some ⟨1,8,.other,[.nilFunc]⟩
 | 152=>some ⟨1,8,.other,[.nilFunc]⟩
 | 153=>some ⟨1,8,.other,[.nilFunc]⟩
 | 154=>some ⟨1,8,.other,[.nilFunc]⟩
 | 156=>some ⟨1,8,.other,[.nilFunc]⟩
 | 157=>some ⟨1,8,.other,[.nilFunc]⟩
 | 158=>some ⟨1,8,.other,[.nilFunc]⟩
 | 159=>some ⟨8,8,.array 8 5,[.int .u8 0,.int .u8 0,.int .u8 0,.int .u8 0,.int .u8 0,.int .u8 0,.int .u8 0,.int .u8 0]⟩
 | 160=>some ⟨1,24,.slice 5,[.slice none 0 0]⟩
 | 162=>some ⟨1,8,.other,[.nilFunc]⟩
 | 163=>some ⟨1,8,.other,[.nilFunc]⟩
 | 164=>some ⟨1,8,.other,[.nilFunc]⟩
 | 165=>some ⟨1,8,.other,[.nilFunc]⟩
 | 167=>some ⟨1,8,.other,[.nilFunc]⟩
 | 168=>some ⟨1,8,.other,[.nilFunc]⟩
 | 169=>some ⟨1,8,.other,[.nilFunc]⟩
 | 170=>some ⟨1,8,.other,[.nilFunc]⟩
 | 172=>some ⟨1,8,.other,[.nilFunc]⟩
 | 173=>some ⟨8,128,.array 8 9,[.string ⟨#[]⟩,.string ⟨#[]⟩,.string ⟨#[]⟩,.string ⟨#[]⟩,.string ⟨#[]⟩,.string ⟨#[]⟩,.string ⟨#[]⟩,.string ⟨#[]⟩]⟩
 | 177=>some ⟨4,40,.struct [(0,1,false),(1,1,false),(2,1,false),(3,1,false)],[.pointer none,.pointer none,.pointer none,.string ⟨#[]⟩]⟩
 | 178=>some ⟨4,40,.struct [(0,1,false),(1,1,false),(2,1,false),(3,1,false)],[.pointer none,.pointer none,.pointer none,.string ⟨#[]⟩]⟩
 | 182=>some ⟨1,8,.other,[.nilFunc]⟩
 | 183=>some ⟨1,1,.int .u8,[.int .u8 0]⟩
 | 184=>some ⟨1,1,.int .u8,[.int .u8 0]⟩
 | 185=>some ⟨1,8,.other,[.nilFunc]⟩
 | 187=>some ⟨1,4,.int .i32,[.int .i32 0]⟩
 | 188=>some ⟨1,4,.int .i32,[.int .i32 0]⟩
 | 189=>some ⟨11,48,.struct [(0,1,false),(1,1,false),(2,1,false),(3,1,false),(4,1,false),(5,1,false),(6,1,false),(7,1,false),(8,1,false),(9,1,false),(10,1,false)],[.int .u64 0,.int .u64 0,.int .u32 0,.int .u8 0,.int .u8 0,.int .u8 0,.int .u8 0,.nilFunc,.pointer none,.int .i32 0,.int .i32 0]⟩
 | 190=>some ⟨11,48,.struct [(0,1,false),(1,1,false),(2,1,false),(3,1,false),(4,1,false),(5,1,false),(6,1,false),(7,1,false),(8,1,false),(9,1,false),(10,1,false)],[.int .u64 0,.int .u64 0,.int .u32 0,.int .u8 0,.int .u8 0,.int .u8 0,.int .u8 0,.nilFunc,.pointer none,.int .i32 0,.int .i32 0]⟩
 | 191=>some ⟨1,16,.struct [(0,1,false)],[.string ⟨#[]⟩]⟩
 | 192=>some ⟨1,16,.struct [(0,1,false)],[.string ⟨#[]⟩]⟩
 | _=>none
theorem adF:aB Tryz.prog 1 ⟨1,8,.other,[.nilFunc]⟩:=aK (by kernel_rfl) (by kernel_rfl) (by kernel_rfl)
theorem adG:aB Tryz.prog 2 ⟨1,8,.int .i64,[.int .i64 0]⟩:=aK (by kernel_rfl) (by kernel_rfl) (by kernel_rfl)
theorem adH:aB Tryz.prog 3 ⟨1,8,.int .i64,[.int .i64 0]⟩:=aK (by kernel_rfl) (by kernel_rfl) (by kernel_rfl)
theorem adI:aB Tryz.prog 4 ⟨1,1,.bool,[.bool false]⟩:=aK (by kernel_rfl) (by kernel_rfl) (by kernel_rfl)
theorem adJ:aB Tryz.prog 5 ⟨1,1,.int .u8,[.int .u8 0]⟩:=aK (by kernel_rfl) (by kernel_rfl) (by kernel_rfl)
theorem adK:aB Tryz.prog 6 ⟨1,1,.int .u8,[.int .u8 0]⟩:=aK (by kernel_rfl) (by kernel_rfl) (by kernel_rfl)
theorem adL:aB Tryz.prog 7 ⟨4,24,.struct [(0,1,false),(1,1,false),(2,1,false),(3,1,false)],[.int .i64 0,.int .i64 0,.bool false,.int .u8 0]⟩:=aK (by kernel_rfl) (by kernel_rfl) (by kernel_rfl)
theorem adM:aB Tryz.prog 8 ⟨4,24,.struct [(0,1,false),(1,1,false),(2,1,false),(3,1,false)],[.int .i64 0,.int .i64 0,.bool false,.int .u8 0]⟩:=aK (by kernel_rfl) (by kernel_rfl) (by kernel_rfl)
theorem adN:aB Tryz.prog 9 ⟨1,16,.str,[.string ⟨#[]⟩]⟩:=aK (by kernel_rfl) (by kernel_rfl) (by kernel_rfl)
theorem abo:aB Tryz.prog 10 ⟨1,16,.str,[.string ⟨#[]⟩]⟩:=aK (by kernel_rfl) (by kernel_rfl) (by kernel_rfl)
theorem abp:aB Tryz.prog 11 ⟨1,16,.str,[.string ⟨#[]⟩]⟩:=aK (by kernel_rfl) (by kernel_rfl) (by kernel_rfl)
theorem abq:aB Tryz.prog 12 ⟨1,8,.int .u64,[.int .u64 0]⟩:=aK (by kernel_rfl) (by kernel_rfl) (by kernel_rfl)
theorem abr:aB Tryz.prog 13 ⟨2,24,.struct [(0,1,false),(1,1,false)],[.string ⟨#[]⟩,.int .u64 0]⟩:=aK (by kernel_rfl) (by kernel_rfl) (by kernel_rfl)
theorem abt:aB Tryz.prog 14 ⟨2,24,.struct [(0,1,false),(1,1,false)],[.string ⟨#[]⟩,.int .u64 0]⟩:=aK (by kernel_rfl) (by kernel_rfl) (by kernel_rfl)
theorem abu:aB Tryz.prog 18 ⟨1,8,.struct [(0,1,false)],[.pointer none]⟩:=aK (by kernel_rfl) (by kernel_rfl) (by kernel_rfl)
theorem abv:aB Tryz.prog 19 ⟨1,8,.struct [(0,1,false)],[.pointer none]⟩:=aK (by kernel_rfl) (by kernel_rfl) (by kernel_rfl)
theorem abw:aB Tryz.prog 21 ⟨1,4,.int .i32,[.int .i32 0]⟩:=aK (by kernel_rfl) (by kernel_rfl) (by kernel_rfl)
theorem abx:aB Tryz.prog 22 ⟨1,24,.slice 26,[.slice none 0 0]⟩:=aK (by kernel_rfl) (by kernel_rfl) (by kernel_rfl)
theorem aby:aB Tryz.prog 23 ⟨3,40,.struct [(0,1,false),(1,1,false),(2,1,false)],[.bool false,.string ⟨#[]⟩,.string ⟨#[]⟩]⟩:=aK (by kernel_rfl) (by kernel_rfl) (by kernel_rfl)
theorem abz:aB Tryz.prog 24 ⟨3,40,.struct [(0,1,false),(1,1,false),(2,1,false)],[.bool false,.string ⟨#[]⟩,.string ⟨#[]⟩]⟩:=aK (by kernel_rfl) (by kernel_rfl) (by kernel_rfl)
theorem abA:aB Tryz.prog 25 ⟨6,80,.struct [(0,3,true),(3,3,true)],[.bool false,.string ⟨#[]⟩,.string ⟨#[]⟩,.bool false,.string ⟨#[]⟩,.string ⟨#[]⟩]⟩:=aK (by kernel_rfl) (by kernel_rfl) (by kernel_rfl)
theorem abB:aB Tryz.prog 26 ⟨6,80,.struct [(0,3,true),(3,3,true)],[.bool false,.string ⟨#[]⟩,.string ⟨#[]⟩,.bool false,.string ⟨#[]⟩,.string ⟨#[]⟩]⟩:=aK (by kernel_rfl) (by kernel_rfl) (by kernel_rfl)
theorem abC:aB Tryz.prog 27 ⟨1,8,.other,[.nilFunc]⟩:=aK (by kernel_rfl) (by kernel_rfl) (by kernel_rfl)
theorem abD:aB Tryz.prog 28 ⟨1,8,.other,[.nilFunc]⟩:=aK (by kernel_rfl) (by kernel_rfl) (by kernel_rfl)
theorem abE:aB Tryz.prog 29 ⟨1,8,.int .i64,[.int .i64 0]⟩:=aK (by kernel_rfl) (by kernel_rfl) (by kernel_rfl)
theorem abF:aB Tryz.prog 31 ⟨1,8,.other,[.nilFunc]⟩:=aK (by kernel_rfl) (by kernel_rfl) (by kernel_rfl)
theorem abG:aB Tryz.prog 32 ⟨1,8,.other,[.nilFunc]⟩:=aK (by kernel_rfl) (by kernel_rfl) (by kernel_rfl)
theorem abH:aB Tryz.prog 33 ⟨1,8,.other,[.nilFunc]⟩:=aK (by kernel_rfl) (by kernel_rfl) (by kernel_rfl)
theorem abI:aB Tryz.prog 34 ⟨1,8,.other,[.nilFunc]⟩:=aK (by kernel_rfl) (by kernel_rfl) (by kernel_rfl)
theorem abJ:aB Tryz.prog 36 ⟨1,8,.other,[.nilFunc]⟩:=aK (by kernel_rfl) (by kernel_rfl) (by kernel_rfl)
theorem abK:aB Tryz.prog 38 ⟨1,8,.other,[.nilFunc]⟩:=aK (by kernel_rfl) (by kernel_rfl) (by kernel_rfl)
theorem abL:aB Tryz.prog 39 ⟨12,160,.struct [(0,6,true),(6,6,true)],[.bool false,.string ⟨#[]⟩,.string ⟨#[]⟩,.bool false,.string ⟨#[]⟩,.string ⟨#[]⟩,.bool false,.string ⟨#[]⟩,.string ⟨#[]⟩,.bool false,.string ⟨#[]⟩,.string ⟨#[]⟩]⟩:=aK (by kernel_rfl) (by kernel_rfl) (by kernel_rfl)
theorem abM:aB Tryz.prog 40 ⟨12,160,.struct [(0,6,true),(6,6,true)],[.bool false,.string ⟨#[]⟩,.string ⟨#[]⟩,.bool false,.string ⟨#[]⟩,.string ⟨#[]⟩,.bool false,.string ⟨#[]⟩,.string ⟨#[]⟩,.bool false,.string ⟨#[]⟩,.string ⟨#[]⟩]⟩:=aK (by kernel_rfl) (by kernel_rfl) (by kernel_rfl)
theorem abN:aB Tryz.prog 41 ⟨1,8,.other,[.nilFunc]⟩:=aK (by kernel_rfl) (by kernel_rfl) (by kernel_rfl)
theorem abO:aB Tryz.prog 42 ⟨1,8,.other,[.nilFunc]⟩:=aK (by kernel_rfl) (by kernel_rfl) (by kernel_rfl)
theorem abP:aB Tryz.prog 43 ⟨1,8,.other,[.nilFunc]⟩:=aK (by kernel_rfl) (by kernel_rfl) (by kernel_rfl)
theorem abQ:aB Tryz.prog 44 ⟨1,8,.other,[.nilFunc]⟩:=aK (by kernel_rfl) (by kernel_rfl) (by kernel_rfl)
theorem abR:aB Tryz.prog 45 ⟨1,8,.other,[.nilFunc]⟩:=aK (by kernel_rfl) (by kernel_rfl) (by kernel_rfl)
theorem abS:aB Tryz.prog 47 ⟨1,8,.other,[.nilFunc]⟩:=aK (by kernel_rfl) (by kernel_rfl) (by kernel_rfl)
theorem abT:aB Tryz.prog 48 ⟨1,8,.other,[.nilFunc]⟩:=aK (by kernel_rfl) (by kernel_rfl) (by kernel_rfl)
theorem abU:aB Tryz.prog 49 ⟨1,8,.other,[.nilFunc]⟩:=aK (by kernel_rfl) (by kernel_rfl) (by kernel_rfl)
theorem abV:aB Tryz.prog 50 ⟨1,8,.other,[.nilFunc]⟩:=aK (by kernel_rfl) (by kernel_rfl) (by kernel_rfl)
theorem abW:aB Tryz.prog 51 ⟨1,8,.other,[.nilFunc]⟩:=aK (by kernel_rfl) (by kernel_rfl) (by kernel_rfl)
theorem abX:aB Tryz.prog 52 ⟨1,8,.other,[.nilFunc]⟩:=aK (by kernel_rfl) (by kernel_rfl) (by kernel_rfl)
theorem abY:aB Tryz.prog 53 ⟨1,8,.other,[.nilFunc]⟩:=aK (by kernel_rfl) (by kernel_rfl) (by kernel_rfl)
theorem abZ:aB Tryz.prog 54 ⟨1,8,.other,[.nilFunc]⟩:=aK (by kernel_rfl) (by kernel_rfl) (by kernel_rfl)
theorem ab0:aB Tryz.prog 55 ⟨1,24,.slice 24,[.slice none 0 0]⟩:=aK (by kernel_rfl) (by kernel_rfl) (by kernel_rfl)
theorem ab1:aB Tryz.prog 56 ⟨1,8,.other,[.nilFunc]⟩:=aK (by kernel_rfl) (by kernel_rfl) (by kernel_rfl)
theorem ab2:aB Tryz.prog 57 ⟨1,8,.other,[.nilFunc]⟩:=aK (by kernel_rfl) (by kernel_rfl) (by kernel_rfl)
theorem ab3:aB Tryz.prog 59 ⟨1,8,.other,[.nilFunc]⟩:=aK (by kernel_rfl) (by kernel_rfl) (by kernel_rfl)
theorem ab4:aB Tryz.prog 61 ⟨1,8,.other,[.nilFunc]⟩:=aK (by kernel_rfl) (by kernel_rfl) (by kernel_rfl)
theorem ab5:aB Tryz.prog 62 ⟨1,8,.other,[.nilFunc]⟩:=aK (by kernel_rfl) (by kernel_rfl) (by kernel_rfl)
theorem ab6:aB Tryz.prog 63 ⟨1,8,.other,[.nilFunc]⟩:=aK (by kernel_rfl) (by kernel_rfl) (by kernel_rfl)
theorem ab7:aB Tryz.prog 64 ⟨1,8,.other,[.nilFunc]⟩:=aK (by kernel_rfl) (by kernel_rfl) (by kernel_rfl)
theorem ab8:aB Tryz.prog 65 ⟨1,8,.other,[.nilFunc]⟩:=aK (by kernel_rfl) (by kernel_rfl) (by kernel_rfl)
theorem ab9:aB Tryz.prog 67 ⟨1,8,.other,[.nilFunc]⟩:=aK (by kernel_rfl) (by kernel_rfl) (by kernel_rfl)
theorem aca:aB Tryz.prog 68 ⟨1,24,.slice 22,[.slice none 0 0]⟩:=aK (by kernel_rfl) (by kernel_rfl) (by kernel_rfl)
theorem acb:aB Tryz.prog 69 ⟨1,8,.other,[.nilFunc]⟩:=aK (by kernel_rfl) (by kernel_rfl) (by kernel_rfl)
theorem acd:aB Tryz.prog 70 ⟨1,8,.other,[.nilFunc]⟩:=aK (by kernel_rfl) (by kernel_rfl) (by kernel_rfl)
theorem ace:aB Tryz.prog 71 ⟨1,8,.other,[.nilFunc]⟩:=aK (by kernel_rfl) (by kernel_rfl) (by kernel_rfl)
theorem acf:aB Tryz.prog 72 ⟨1,8,.other,[.nilFunc]⟩:=aK (by kernel_rfl) (by kernel_rfl) (by kernel_rfl)
theorem acg:aB Tryz.prog 73 ⟨1,8,.other,[.nilFunc]⟩:=aK (by kernel_rfl) (by kernel_rfl) (by kernel_rfl)
theorem ach:aB Tryz.prog 74 ⟨1,8,.other,[.nilFunc]⟩:=aK (by kernel_rfl) (by kernel_rfl) (by kernel_rfl)
theorem aci:aB Tryz.prog 75 ⟨1,8,.other,[.nilFunc]⟩:=aK (by kernel_rfl) (by kernel_rfl) (by kernel_rfl)
theorem acj:aB Tryz.prog 76 ⟨1,8,.other,[.nilFunc]⟩:=aK (by kernel_rfl) (by kernel_rfl) (by kernel_rfl)
theorem ack:aB Tryz.prog 77 ⟨1,8,.other,[.nilFunc]⟩:=aK (by kernel_rfl) (by kernel_rfl) (by kernel_rfl)
theorem acm:aB Tryz.prog 78 ⟨1,8,.other,[.nilFunc]⟩:=aK (by kernel_rfl) (by kernel_rfl) (by kernel_rfl)
theorem acn:aB Tryz.prog 79 ⟨1,8,.other,[.nilFunc]⟩:=aK (by kernel_rfl) (by kernel_rfl) (by kernel_rfl)
theorem aco:aB Tryz.prog 80 ⟨1,8,.other,[.nilFunc]⟩:=aK (by kernel_rfl) (by kernel_rfl) (by kernel_rfl)
theorem acp:aB Tryz.prog 81 ⟨1,8,.other,[.nilFunc]⟩:=aK (by kernel_rfl) (by kernel_rfl) (by kernel_rfl)
theorem acq:aB Tryz.prog 82 ⟨1,8,.other,[.nilFunc]⟩:=aK (by kernel_rfl) (by kernel_rfl) (by kernel_rfl)
theorem acr:aB Tryz.prog 83 ⟨1,8,.other,[.nilFunc]⟩:=aK (by kernel_rfl) (by kernel_rfl) (by kernel_rfl)
theorem acs:aB Tryz.prog 84 ⟨1,8,.other,[.nilFunc]⟩:=aK (by kernel_rfl) (by kernel_rfl) (by kernel_rfl)
theorem acu:aB Tryz.prog 85 ⟨1,8,.other,[.nilFunc]⟩:=aK (by kernel_rfl) (by kernel_rfl) (by kernel_rfl)
theorem acv:aB Tryz.prog 86 ⟨1,8,.other,[.nilFunc]⟩:=aK (by kernel_rfl) (by kernel_rfl) (by kernel_rfl)
theorem acw:aB Tryz.prog 88 ⟨1,8,.other,[.nilFunc]⟩:=aK (by kernel_rfl) (by kernel_rfl) (by kernel_rfl)
theorem acx:aB Tryz.prog 89 ⟨1,8,.other,[.nilFunc]⟩:=aK (by kernel_rfl) (by kernel_rfl) (by kernel_rfl)
theorem acy:aB Tryz.prog 90 ⟨1,8,.other,[.nilFunc]⟩:=aK (by kernel_rfl) (by kernel_rfl) (by kernel_rfl)
theorem acz:aB Tryz.prog 91 ⟨1,8,.other,[.nilFunc]⟩:=aK (by kernel_rfl) (by kernel_rfl) (by kernel_rfl)
theorem acA:aB Tryz.prog 92 ⟨2,24,.struct [(0,1,false),(1,1,false)],[.bool false,.string ⟨#[]⟩]⟩:=aK (by kernel_rfl) (by kernel_rfl) (by kernel_rfl)
theorem acB:aB Tryz.prog 93 ⟨2,24,.struct [(0,1,false),(1,1,false)],[.bool false,.string ⟨#[]⟩]⟩:=aK (by kernel_rfl) (by kernel_rfl) (by kernel_rfl)
theorem acC:aB Tryz.prog 94 ⟨1,8,.other,[.nilFunc]⟩:=aK (by kernel_rfl) (by kernel_rfl) (by kernel_rfl)
theorem acD:aB Tryz.prog 95 ⟨1,8,.other,[.nilFunc]⟩:=aK (by kernel_rfl) (by kernel_rfl) (by kernel_rfl)
theorem acE:aB Tryz.prog 96 ⟨4,48,.struct [(0,2,true),(2,2,true)],[.bool false,.string ⟨#[]⟩,.bool false,.string ⟨#[]⟩]⟩:=aK (by kernel_rfl) (by kernel_rfl) (by kernel_rfl)
theorem acF:aB Tryz.prog 97 ⟨4,48,.struct [(0,2,true),(2,2,true)],[.bool false,.string ⟨#[]⟩,.bool false,.string ⟨#[]⟩]⟩:=aK (by kernel_rfl) (by kernel_rfl) (by kernel_rfl)
theorem acG:aB Tryz.prog 98 ⟨1,8,.other,[.nilFunc]⟩:=aK (by kernel_rfl) (by kernel_rfl) (by kernel_rfl)
theorem acH:aB Tryz.prog 99 ⟨1,8,.other,[.nilFunc]⟩:=aK (by kernel_rfl) (by kernel_rfl) (by kernel_rfl)
theorem YX:aB Tryz.prog 100 ⟨1,8,.other,[.nilFunc]⟩:=aK (by kernel_rfl) (by kernel_rfl) (by kernel_rfl)
theorem YY:aB Tryz.prog 101 ⟨1,8,.other,[.nilFunc]⟩:=aK (by kernel_rfl) (by kernel_rfl) (by kernel_rfl)
theorem YZ:aB Tryz.prog 102 ⟨1,8,.other,[.nilFunc]⟩:=aK (by kernel_rfl) (by kernel_rfl) (by kernel_rfl)
theorem Y0:aB Tryz.prog 103 ⟨1,8,.other,[.nilFunc]⟩:=aK (by kernel_rfl) (by kernel_rfl) (by kernel_rfl)
theorem Y1:aB Tryz.prog 104 ⟨1,8,.other,[.nilFunc]⟩:=aK (by kernel_rfl) (by kernel_rfl) (by kernel_rfl)
theorem Y2:aB Tryz.prog 105 ⟨1,8,.other,[.nilFunc]⟩:=aK (by kernel_rfl) (by kernel_rfl) (by kernel_rfl)
theorem Y3:aB Tryz.prog 106 ⟨1,8,.other,[.nilFunc]⟩:=aK (by kernel_rfl) (by kernel_rfl) (by kernel_rfl)
theorem Y4:aB Tryz.prog 107 ⟨1,8,.other,[.nilFunc]⟩:=aK (by kernel_rfl) (by kernel_rfl) (by kernel_rfl)
theorem Y5:aB Tryz.prog 108 ⟨1,8,.other,[.nilFunc]⟩:=aK (by kernel_rfl) (by kernel_rfl) (by kernel_rfl)
theorem Y6:aB Tryz.prog 110 ⟨1,8,.other,[.nilFunc]⟩:=aK (by kernel_rfl) (by kernel_rfl) (by kernel_rfl)
theorem Y7:aB Tryz.prog 111 ⟨1,8,.other,[.nilFunc]⟩:=aK (by kernel_rfl) (by kernel_rfl) (by kernel_rfl)
theorem Y8:aB Tryz.prog 112 ⟨1,8,.other,[.nilFunc]⟩:=aK (by kernel_rfl) (by kernel_rfl) (by kernel_rfl)
theorem Y9:aB Tryz.prog 113 ⟨1,8,.other,[.nilFunc]⟩:=aK (by kernel_rfl) (by kernel_rfl) (by kernel_rfl)
theorem Za:aB Tryz.prog 114 ⟨1,8,.other,[.nilFunc]⟩:=aK (by kernel_rfl) (by kernel_rfl) (by kernel_rfl)
theorem Zb:aB Tryz.prog 115 ⟨1,24,.slice 3,[.slice none 0 0]⟩:=aK (by kernel_rfl) (by kernel_rfl) (by kernel_rfl)
theorem Zc:aB Tryz.prog 116 ⟨1,8,.other,[.nilFunc]⟩:=aK (by kernel_rfl) (by kernel_rfl) (by kernel_rfl)
theorem Zd:aB Tryz.prog 117 ⟨1,8,.other,[.nilFunc]⟩:=aK (by kernel_rfl) (by kernel_rfl) (by kernel_rfl)
theorem Ze:aB Tryz.prog 118 ⟨1,8,.other,[.nilFunc]⟩:=aK (by kernel_rfl) (by kernel_rfl) (by kernel_rfl)
theorem Zf:aB Tryz.prog 119 ⟨1,8,.other,[.nilFunc]⟩:=aK (by kernel_rfl) (by kernel_rfl) (by kernel_rfl)
theorem Zg:aB Tryz.prog 120 ⟨9,120,.struct [(0,3,true),(3,3,true),(6,3,true)],[.bool false,.string ⟨#[]⟩,.string ⟨#[]⟩,.bool false,.string ⟨#[]⟩,.string ⟨#[]⟩,.bool false,.string ⟨#[]⟩,.string ⟨#[]⟩]⟩:=aK (by kernel_rfl) (by kernel_rfl) (by kernel_rfl)
theorem Zh:aB Tryz.prog 121 ⟨9,120,.struct [(0,3,true),(3,3,true),(6,3,true)],[.bool false,.string ⟨#[]⟩,.string ⟨#[]⟩,.bool false,.string ⟨#[]⟩,.string ⟨#[]⟩,.bool false,.string ⟨#[]⟩,.string ⟨#[]⟩]⟩:=aK (by kernel_rfl) (by kernel_rfl) (by kernel_rfl)
theorem Zi:aB Tryz.prog 123 ⟨1,8,.other,[.nilFunc]⟩:=aK (by kernel_rfl) (by kernel_rfl) (by kernel_rfl)
theorem Zj:aB Tryz.prog 124 ⟨1,8,.other,[.nilFunc]⟩:=aK (by kernel_rfl) (by kernel_rfl) (by kernel_rfl)
theorem Zk:aB Tryz.prog 125 ⟨1,8,.other,[.nilFunc]⟩:=aK (by kernel_rfl) (by kernel_rfl) (by kernel_rfl)
theorem Zl:aB Tryz.prog 126 ⟨1,8,.other,[.nilFunc]⟩:=aK (by kernel_rfl) (by kernel_rfl) (by kernel_rfl)
theorem Zm:aB Tryz.prog 127 ⟨1,8,.other,[.nilFunc]⟩:=aK (by kernel_rfl) (by kernel_rfl) (by kernel_rfl)
theorem Zn:aB Tryz.prog 128 ⟨1,8,.other,[.nilFunc]⟩:=aK (by kernel_rfl) (by kernel_rfl) (by kernel_rfl)
theorem Zo:aB Tryz.prog 129 ⟨1,8,.int .u64,[.int .u64 0]⟩:=aK (by kernel_rfl) (by kernel_rfl) (by kernel_rfl)
theorem Zp:aB Tryz.prog 130 ⟨1,8,.other,[.nilFunc]⟩:=aK (by kernel_rfl) (by kernel_rfl) (by kernel_rfl)
theorem Zq:aB Tryz.prog 131 ⟨1,4,.int .u32,[.int .u32 0]⟩:=aK (by kernel_rfl) (by kernel_rfl) (by kernel_rfl)
theorem Zr:aB Tryz.prog 132 ⟨1,8,.int .u64,[.int .u64 0]⟩:=aK (by kernel_rfl) (by kernel_rfl) (by kernel_rfl)
theorem Zs:aB Tryz.prog 133 ⟨1,24,.slice 131,[.slice none 0 0]⟩:=aK (by kernel_rfl) (by kernel_rfl) (by kernel_rfl)
theorem Zt:aB Tryz.prog 134 ⟨1,24,.slice 131,[.slice none 0 0]⟩:=aK (by kernel_rfl) (by kernel_rfl) (by kernel_rfl)
theorem Zu:aB Tryz.prog 135 ⟨1,8,.other,[.nilFunc]⟩:=aK (by kernel_rfl) (by kernel_rfl) (by kernel_rfl)
theorem Zv:aB Tryz.prog 137 ⟨1,8,.other,[.nilFunc]⟩:=aK (by kernel_rfl) (by kernel_rfl) (by kernel_rfl)
theorem Zw:aB Tryz.prog 138 ⟨1,8,.other,[.nilFunc]⟩:=aK (by kernel_rfl) (by kernel_rfl) (by kernel_rfl)
theorem Zx:aB Tryz.prog 139 ⟨1,8,.other,[.nilFunc]⟩:=aK (by kernel_rfl) (by kernel_rfl) (by kernel_rfl)
theorem Zy:aB Tryz.prog 140 ⟨1,8,.other,[.nilFunc]⟩:=aK (by kernel_rfl) (by kernel_rfl) (by kernel_rfl)
theorem Zz:aB Tryz.prog 142 ⟨1,8,.other,[.nilFunc]⟩:=aK (by kernel_rfl) (by kernel_rfl) (by kernel_rfl)
theorem ZA:aB Tryz.prog 143 ⟨1,8,.other,[.nilFunc]⟩:=aK (by kernel_rfl) (by kernel_rfl) (by kernel_rfl)
theorem ZB:aB Tryz.prog 144 ⟨1,8,.other,[.nilFunc]⟩:=aK (by kernel_rfl) (by kernel_rfl) (by kernel_rfl)
theorem ZC:aB Tryz.prog 146 ⟨1,8,.other,[.nilFunc]⟩:=aK (by kernel_rfl) (by kernel_rfl) (by kernel_rfl)
theorem ZD:aB Tryz.prog 147 ⟨1,8,.other,[.nilFunc]⟩:=aK (by kernel_rfl) (by kernel_rfl) (by kernel_rfl)
theorem ZF:aB Tryz.prog 148 ⟨1,8,.other,[.nilFunc]⟩:=aK (by kernel_rfl) (by kernel_rfl) (by kernel_rfl)
theorem ZG:aB Tryz.prog 149 ⟨1,8,.other,[.nilFunc]⟩:=aK (by kernel_rfl) (by kernel_rfl) (by kernel_rfl)
theorem ZH:aB Tryz.prog 150 ⟨1,8,.other,[.nilFunc]⟩:=aK (by kernel_rfl) (by kernel_rfl) (by kernel_rfl)
theorem ZI:aB Tryz.prog 152 ⟨1,8,.other,[.nilFunc]⟩:=aK (by kernel_rfl) (by kernel_rfl) (by kernel_rfl)
theorem ZJ:aB Tryz.prog 153 ⟨1,8,.other,[.nilFunc]⟩:=aK (by kernel_rfl) (by kernel_rfl) (by kernel_rfl)
theorem ZK:aB Tryz.prog 154 ⟨1,8,.other,[.nilFunc]⟩:=aK (by kernel_rfl) (by kernel_rfl) (by kernel_rfl)
theorem ZL:aB Tryz.prog 156 ⟨1,8,.other,[.nilFunc]⟩:=aK (by kernel_rfl) (by kernel_rfl) (by kernel_rfl)
theorem ZM:aB Tryz.prog 157 ⟨1,8,.other,[.nilFunc]⟩:=aK (by kernel_rfl) (by kernel_rfl) (by kernel_rfl)
theorem ZN:aB Tryz.prog 158 ⟨1,8,.other,[.nilFunc]⟩:=aK (by kernel_rfl) (by kernel_rfl) (by kernel_rfl)
theorem ZO:aB Tryz.prog 159 ⟨8,8,.array 8 5,[.int .u8 0,.int .u8 0,.int .u8 0,.int .u8 0,.int .u8 0,.int .u8 0,.int .u8 0,.int .u8 0]⟩:=aK (by kernel_rfl) (by kernel_rfl) (by kernel_rfl)
theorem ZP:aB Tryz.prog 160 ⟨1,24,.slice 5,[.slice none 0 0]⟩:=aK (by kernel_rfl) (by kernel_rfl) (by kernel_rfl)
theorem ZQ:aB Tryz.prog 162 ⟨1,8,.other,[.nilFunc]⟩:=aK (by kernel_rfl) (by kernel_rfl) (by kernel_rfl)
theorem ZR:aB Tryz.prog 163 ⟨1,8,.other,[.nilFunc]⟩:=aK (by kernel_rfl) (by kernel_rfl) (by kernel_rfl)
theorem ZS:aB Tryz.prog 164 ⟨1,8,.other,[.nilFunc]⟩:=aK (by kernel_rfl) (by kernel_rfl) (by kernel_rfl)
theorem ZT:aB Tryz.prog 165 ⟨1,8,.other,[.nilFunc]⟩:=aK (by kernel_rfl) (by kernel_rfl) (by kernel_rfl)
theorem ZU:aB Tryz.prog 167 ⟨1,8,.other,[.nilFunc]⟩:=aK (by kernel_rfl) (by kernel_rfl) (by kernel_rfl)
theorem ZV:aB Tryz.prog 168 ⟨1,8,.other,[.nilFunc]⟩:=aK (by kernel_rfl) (by kernel_rfl) (by kernel_rfl)
theorem ZW:aB Tryz.prog 169 ⟨1,8,.other,[.nilFunc]⟩:=aK (by kernel_rfl) (by kernel_rfl) (by kernel_rfl)
theorem ZX:aB Tryz.prog 170 ⟨1,8,.other,[.nilFunc]⟩:=aK (by kernel_rfl) (by kernel_rfl) (by kernel_rfl)
theorem ZY:aB Tryz.prog 172 ⟨1,8,.other,[.nilFunc]⟩:=aK (by kernel_rfl) (by kernel_rfl) (by kernel_rfl)
theorem ZZ:aB Tryz.prog 173 ⟨8,128,.array 8 9,[.string ⟨#[]⟩,.string ⟨#[]⟩,.string ⟨#[]⟩,.string ⟨#[]⟩,.string ⟨#[]⟩,.string ⟨#[]⟩,.string ⟨#[]⟩,.string ⟨#[]⟩]⟩:=aK (by kernel_rfl) (by kernel_rfl) (by kernel_rfl)
theorem Z0:aB Tryz.prog 177 ⟨4,40,.struct [(0,1,false),(1,1,false),(2,1,false),(3,1,false)],[.pointer none,.pointer none,.pointer none,.string ⟨#[]⟩]⟩:=aK (by kernel_rfl) (by kernel_rfl) (by kernel_rfl)
theorem Z1:aB Tryz.prog 178 ⟨4,40,.struct [(0,1,false),(1,1,false),(2,1,false),(3,1,false)],[.pointer none,.pointer none,.pointer none,.string ⟨#[]⟩]⟩:=aK (by kernel_rfl) (by kernel_rfl) (by kernel_rfl)
theorem Z2:aB Tryz.prog 182 ⟨1,8,.other,[.nilFunc]⟩:=aK (by kernel_rfl) (by kernel_rfl) (by kernel_rfl)
theorem Z3:aB Tryz.prog 183 ⟨1,1,.int .u8,[.int .u8 0]⟩:=aK (by kernel_rfl) (by kernel_rfl) (by kernel_rfl)
theorem Z4:aB Tryz.prog 184 ⟨1,1,.int .u8,[.int .u8 0]⟩:=aK (by kernel_rfl) (by kernel_rfl) (by kernel_rfl)
theorem Z5:aB Tryz.prog 185 ⟨1,8,.other,[.nilFunc]⟩:=aK (by kernel_rfl) (by kernel_rfl) (by kernel_rfl)
theorem Z6:aB Tryz.prog 187 ⟨1,4,.int .i32,[.int .i32 0]⟩:=aK (by kernel_rfl) (by kernel_rfl) (by kernel_rfl)
theorem Z7:aB Tryz.prog 188 ⟨1,4,.int .i32,[.int .i32 0]⟩:=aK (by kernel_rfl) (by kernel_rfl) (by kernel_rfl)
theorem Z8:aB Tryz.prog 189 ⟨11,48,.struct [(0,1,false),(1,1,false),(2,1,false),(3,1,false),(4,1,false),(5,1,false),(6,1,false),(7,1,false),(8,1,false),(9,1,false),(10,1,false)],[.int .u64 0,.int .u64 0,.int .u32 0,.int .u8 0,.int .u8 0,.int .u8 0,.int .u8 0,.nilFunc,.pointer none,.int .i32 0,.int .i32 0]⟩:=aK (by kernel_rfl) (by kernel_rfl) (by kernel_rfl)
theorem Z9:aB Tryz.prog 190 ⟨11,48,.struct [(0,1,false),(1,1,false),(2,1,false),(3,1,false),(4,1,false),(5,1,false),(6,1,false),(7,1,false),(8,1,false),(9,1,false),(10,1,false)],[.int .u64 0,.int .u64 0,.int .u32 0,.int .u8 0,.int .u8 0,.int .u8 0,.int .u8 0,.nilFunc,.pointer none,.int .i32 0,.int .i32 0]⟩:=aK (by kernel_rfl) (by kernel_rfl) (by kernel_rfl)
theorem aaa:aB Tryz.prog 191 ⟨1,16,.struct [(0,1,false)],[.string ⟨#[]⟩]⟩:=aK (by kernel_rfl) (by kernel_rfl) (by kernel_rfl)
theorem aab:aB Tryz.prog 192 ⟨1,16,.struct [(0,1,false)],[.string ⟨#[]⟩]⟩:=aK (by kernel_rfl) (by kernel_rfl) (by kernel_rfl)
theorem vo:∀ t ti,tt t=some ti→aB Tryz.prog t ti:=by
 intro t ti h;unfold tt at h
 split at h
 ·cases h; exact adF
 ·cases h; exact adG
 ·cases h; exact adH
 ·cases h; exact adI
 ·cases h; exact adJ
 ·cases h; exact adK
 ·cases h; exact adL
 ·cases h; exact adM
 ·cases h; exact adN
 ·cases h; exact abo
 ·cases h; exact abp
 ·cases h; exact abq
 ·cases h; exact abr
 ·cases h; exact abt
 ·cases h; exact abu
 ·cases h; exact abv
 ·cases h; exact abw
 ·cases h; exact abx
 ·cases h; exact aby
 ·cases h; exact abz
 ·cases h; exact abA
 ·cases h; exact abB
 ·cases h; exact abC
 ·cases h; exact abD
 ·cases h; exact abE
 ·cases h; exact abF
 ·cases h; exact abG
 ·cases h; exact abH
 ·cases h; exact abI
 ·cases h; exact abJ
 ·cases h; exact abK
 ·cases h; exact abL
 ·cases h; exact abM
 ·cases h; exact abN
 ·cases h; exact abO
 ·cases h; exact abP
 ·cases h; exact abQ
 ·cases h; exact abR
 ·cases h; exact abS
 ·cases h; exact abT
 ·cases h; exact abU
 ·cases h; exact abV
 ·cases h; exact abW
 ·cases h; exact abX
 ·cases h; exact abY
 ·cases h; exact abZ
 ·cases h; exact ab0
 ·cases h; exact ab1
 ·cases h; exact ab2
 ·cases h; exact ab3
 ·cases h; exact ab4
 ·cases h; exact ab5
 ·cases h; exact ab6
 ·cases h; exact ab7
 ·cases h; exact ab8
 ·cases h; exact ab9
 ·cases h; exact aca
 ·cases h; exact acb
 ·cases h; exact acd
 ·cases h; exact ace
 ·cases h; exact acf
 ·cases h; exact acg
 ·cases h; exact ach
 ·cases h; exact aci
 ·cases h; exact acj
 ·cases h; exact ack
 ·cases h; exact acm
 ·cases h; exact acn
 ·cases h; exact aco
 ·cases h; exact acp
 ·cases h; exact acq
 ·cases h; exact acr
 ·cases h; exact acs
 ·cases h; exact acu
 ·cases h; exact acv
 ·cases h; exact acw
 ·cases h; exact acx
 ·cases h; exact acy
 ·cases h; exact acz
 ·cases h; exact acA
 ·cases h; exact acB
 ·cases h; exact acC
 ·cases h; exact acD
 ·cases h; exact acE
 ·cases h; exact acF
 ·cases h; exact acG
 ·cases h; exact acH
 ·cases h; exact YX
 ·cases h; exact YY
 ·cases h; exact YZ
 ·cases h; exact Y0
 ·cases h; exact Y1
 ·cases h; exact Y2
 ·cases h; exact Y3
 ·cases h; exact Y4
 ·cases h; exact Y5
 ·cases h; exact Y6
 ·cases h; exact Y7
 ·cases h; exact Y8
 ·cases h; exact Y9
 ·cases h; exact Za
 ·cases h; exact Zb
 ·cases h; exact Zc
 ·cases h; exact Zd
 ·cases h; exact Ze
 ·cases h; exact Zf
 ·cases h; exact Zg
 ·cases h; exact Zh
 ·cases h; exact Zi
 ·cases h; exact Zj
 ·cases h; exact Zk
 ·cases h; exact Zl
 ·cases h; exact Zm
 ·cases h; exact Zn
 ·cases h; exact Zo
 ·cases h; exact Zp
 ·cases h; exact Zq
 ·cases h; exact Zr
 ·cases h; exact Zs
 ·cases h; exact Zt
 ·cases h; exact Zu
 ·cases h; exact Zv
 ·cases h; exact Zw
 ·cases h; exact Zx
 ·cases h; exact Zy
 ·cases h; exact Zz
 ·cases h; exact ZA
 ·cases h; exact ZB
 ·cases h; exact ZC
 ·cases h; exact ZD
 ·cases h; exact ZF
 ·cases h; exact ZG
 ·cases h; exact ZH
 ·cases h; exact ZI
 ·cases h; exact ZJ
 ·cases h; exact ZK
 ·cases h; exact ZL
 ·cases h; exact ZM
 ·cases h; exact ZN
 ·cases h; exact ZO
 ·cases h; exact ZP
 ·cases h; exact ZQ
 ·cases h; exact ZR
 ·cases h; exact ZS
 ·cases h; exact ZT
 ·cases h; exact ZU
 ·cases h; exact ZV
 ·cases h; exact ZW
 ·cases h; exact ZX
 ·cases h; exact ZY
 ·cases h; exact ZZ
 ·cases h; exact Z0
 ·cases h; exact Z1
 ·cases h; exact Z2
 ·cases h; exact Z3
 ·cases h; exact Z4
 ·cases h; exact Z5
 ·cases h; exact Z6
 ·cases h; exact Z7
 ·cases h; exact Z8
 ·cases h; exact Z9
 ·cases h; exact aaa
 ·cases h; exact aab
 ·cases h
def En (cs:List (Nat × uZ)) (fs:List (Nat × FT):=[]) (is:List (Nat × (Nat→FT→Nu→FT)):=[]) (iy:Bool:=false):Env:={ tt:=tt,eqs:=[],iy:=iy,Φ:=qM cs,Ψ:=qM fs,It:=qM is }
theorem bF {cs:List (Nat × uZ)} {fs:List (Nat × FT)} {is:List (Nat × (Nat→FT→Nu→FT))} {iy:Bool} (h:vw (DL Tryz.prog) cs) (J:vw (gj Tryz.prog) fs):EnvOk Tryz.prog (En cs fs is iy):=⟨vo,(fun _ h=>nomatch h),fun _ _=>wZ h,fun _ _=>wZ J⟩
theorem wa {cs:List (Nat × uZ)} {fs:List (Nat × FT)} {is:List (Nat × (Nat→FT→Nu→FT))} {iy:Bool} (h:vw (Ag Tryz.prog) is):gV Tryz.prog (En cs fs is iy):=fun _ _=>wZ h
set_option maxRecDepth 20000
open Go Go.Ae
def E0:Env:={ tt:=tt,eqs:=[],Φ:=fun _=>none }
theorem lZ:EnvOk Tryz.prog E0:=⟨vo,fun t h=>by simp [E0] at h,fun g S h=>by simp [E0] at h,fun g F h=>by simp [E0] at h⟩
theorem mixed:Tryz.prog.follows .mixedOrders=true:=by kernel_rfl
theorem aN:nC Tryz.prog cF:=Wt mixed
theorem Xv:bg Tryz.prog 197 uU:=by
 refine bk lZ aN Tryz.func197 (enters_of Tryz.func197 (by kernel_rfl) rfl) (fun _=>rfl) (fun _=>rfl) ?_
 intro ⟨x,y,c⟩ hp;have hp:x < 4294967296∧y < 4294967296∧c≤1:=hp;simp only [uU];conv=>whnf
 simp (disch:=omega) only [bK,w8,cf]
 congr
 omega
theorem N7:bg Tryz.prog 167 lG:=by
 refine bk lZ aN Tryz.func167 (enters_of Tryz.func167 (by kernel_rfl) rfl) (fun _=>rfl) (fun _=>rfl) ?_
 intro ⟨x,y,c⟩ hp;have hp:x < 4294967296∧y < 4294967296∧c≤1:=hp;simp only [lG];conv=>whnf
 show Value.tuple ⟨[.int .u32 (C7 x y c),.int .u32 (Hx x y c)]⟩=_
 rw [MI hp.1 hp.2.1 hp.2.2,Vo hp.1 hp.2.1 hp.2.2]
 split <;> rfl
theorem Xw:bg Tryz.prog 195 C8:=by
 refine bk lZ aN Tryz.func195 (enters_of Tryz.func195 (by kernel_rfl) rfl) (fun _=>rfl) (fun _=>rfl) ?_
 intro ⟨x,y,c⟩ hp;have hp:x < c∧y < 4294967296∧c < 4294967296:=hp;simp only [C8];conv=>whnf
 have h1:((c:Int) != 0)=true:=by simp; omega
 have J:decide ((c:Int)≤(x:Int))=false:=by simp; omega
 simp only [h1];conv=>whnf
 simp only [J];conv=>whnf
 refine .inl ⟨11,[[],[],[1],[0,1,2],[0,1,2,3],[],[],[6],[5,6,7],[5,6,7,8],[0,1,2,3,4],[0,1,2,3,4,5,6,7,8,9,10]],by kernel_rfl,?_⟩
 conv=>whnf
 try simp (disch:=omega) only [ax,bK,dk,dJ,cf,dY,dz,ef,dc,dq,dy,dH,dA,dP,toNat_cast,aw,Nat.zero_add,dX,toNat_0,toNat_1,Nat.sub_zero,eh,eD,eG,eH,dR,eg,dZ,eE]
 refine mZ (decide_eq_true (by omega)) ?_
 conv=>whnf
 refine mZ (decide_eq_true (by rw [bK (by omega) (by omega)]; omega)) ?_
 conv=>whnf
 try simp (disch:=omega) only [ax,bK,dk,dJ,cf,dY,dz,ef,dc,dq,dy,dH,dA,dP,toNat_cast,aw,Nat.zero_add,dX,toNat_0,toNat_1,Nat.sub_zero,eh,eD,eG,eH,dR,eg,dZ,eE]
 have e1:((x:Int)*4294967296+y).tdiv c=((x*4294967296+y) / c:Nat):=rfl;have e2:((x:Int)*4294967296+y).tmod c=((x*4294967296+y) % c:Nat):=rfl;have e3:(x*4294967296+y) / c < 4294967296:=by
  refine (Nat.div_lt_iff_lt_mul (by omega)).2 ?_
  have:(x+1)*4294967296≤c*4294967296:=Nat.mul_le_mul_right _ hp.1;omega
 have e4:(x*4294967296+y) % c < c:=Nat.mod_lt _ (by omega)
 generalize (x*4294967296+y) / c=q at *;generalize (x*4294967296+y) % c=r at *;rw [e1,e2,bK (by omega) (by omega),dk (by omega) (by omega),dk (by omega) (by omega)]
theorem Xx:bg Tryz.prog 196 HA:=by
 refine bk lZ aN Tryz.func196 (enters_of Tryz.func196 (by kernel_rfl) rfl) (fun _=>rfl) (fun _=>rfl) ?_
 intro (x:Nat) (hx:x < 4294967296);simp only [HA];have fin:∀ (y k:Nat),y < 256→∀ (T:ByteArray),(∀ x,x < 256→bW T x=fh x)→k≤24→IntKind.i64.wrap ((k:Int)+IntKind.i64.wrap (bW T (IntKind.u8.wrap (y:Int)).toNat:Int))=((k+fh y:Nat):Int):=by
  intro y k hy T hT hk;have hb:=X8 hy;rw [dJ (by omega) (by omega),toNat_cast,hT y hy]
  simp (disch:=omega) only [ax];omega
 conv=>whnf
 refine aM (fun h=>?_) (fun h=>?_)
 ·have h:65536≤x:=by simp at h; omega
  conv=>whnf
  have e1:(x:Int).fdiv (2 ^ min (Int.toNat 16) IntKind.u32.bits)=((x / 65536:Nat):Int):=by rw [dy]; rfl
  simp only [e1];refine aM (fun J=>?_) (fun J=>?_)
  ·have J:256≤x / 65536:=by simp at J; omega
   conv=>whnf
   have e2:((x / 65536:Nat):Int).fdiv (2 ^ min (Int.toNat 8) IntKind.u32.bits)=((x / 65536 / 256:Nat):Int):=by rw [dq]; rfl
   simp only [e2];refine ⟨⟨?_,?_⟩,?_⟩
   ·rw [lz]; omega
   ·show _ < ((256:Nat):Int)
    rw [lz]; omega
   ·conv=>whnf
    have e3:IntKind.i64.wrap (16+8)=((24:Nat):Int):=rfl;rw [e3];refine congrArg (Value.int .i64) ((fin (x / 65536 / 256) 24 (by omega) _ (by decide +kernel) (by omega)).trans ?_)
    have a1:=BS (x:=x) (k:=16) (by omega)
    have a2:=BS (x:=x / 65536) (k:=8) (by omega)
    have q1:(2:Nat) ^ 16=65536:=rfl;have q2:(2:Nat) ^ 8=256:=rfl;rw [q1] at a1;rw [q2] at a2;rw [a1,a2]; omega
  ·have J:x / 65536 < 256:=by simp at J; omega
   conv=>whnf
   refine ⟨⟨?_,?_⟩,?_⟩
   ·rw [lz]; omega
   ·show _ < ((256:Nat):Int)
    rw [lz]; omega
   ·conv=>whnf
    refine congrArg (Value.int .i64) ((fin (x / 65536) 16 (by omega) _ (by decide +kernel) (by omega)).trans ?_)
    have a1:=BS (x:=x) (k:=16) (by omega)
    have q1:(2:Nat) ^ 16=65536:=rfl;rw [q1] at a1;rw [a1]
 ·have h:x < 65536:=by simp at h; omega
  conv=>whnf
  refine aM (fun J=>?_) (fun J=>?_)
  ·have J:256≤x:=by simp at J; omega
   conv=>whnf
   have e2:(x:Int).fdiv (2 ^ min (Int.toNat 8) IntKind.u32.bits)=((x / 256:Nat):Int):=by rw [dq]; rfl
   simp only [e2];refine ⟨⟨?_,?_⟩,?_⟩
   ·rw [lz]; omega
   ·show _ < ((256:Nat):Int)
    rw [lz]; omega
   ·conv=>whnf
    have e3:IntKind.i64.wrap (0+8)=((8:Nat):Int):=rfl;rw [e3];refine congrArg (Value.int .i64) ((fin (x / 256) 8 (by omega) _ (by decide +kernel) (by omega)).trans ?_)
    have a1:=BS (x:=x) (k:=8) (by omega)
    have q1:(2:Nat) ^ 8=256:=rfl;rw [q1] at a1;rw [a1]
  ·have J:x < 256:=by simp at J; omega
   conv=>whnf
   refine ⟨⟨?_,?_⟩,?_⟩
   ·rw [lz]; omega
   ·show _ < ((256:Nat):Int)
    rw [lz]; omega
   ·conv=>whnf
    refine congrArg (Value.int .i64) ((fin x 0 (by omega) _ (by decide +kernel) (by omega)).trans ?_)
    rw [Nat.zero_add]
def E1:Env:={ tt:=tt,eqs:=[],Φ:=fun g=>match g with | 196=>some (.p HA) | _=>none }
theorem afo:EnvOk Tryz.prog E1:=⟨vo,fun t h=>by simp [E1] at h,(fun g S h=>by
 simp only [E1] at h
 split at h
 ·cases h; exact Xx
 ·cases h),fun g F h=>by simp [E1] at h⟩
theorem aac:bg Tryz.prog 184 Dw:=by
 refine bk afo aN Tryz.func184 (enters_of Tryz.func184 (by kernel_rfl) rfl) (fun _=>rfl) (fun _=>rfl) ?_
 intro (x:Nat) (hx:x < 4294967296);simp only [Dw];conv=>whnf
 refine ⟨x,rfl,hx,?_⟩;conv=>whnf
 have hb:=Nv hx;rw [ax (by omega) (by omega)]
 congr 1; omega
open Go Go.Ae
theorem GJ:bg Tryz.prog 165 kM:=by
 refine bk lZ aN Tryz.func165 (enters_of Tryz.func165 (by kernel_rfl) rfl) (fun _=>rfl) (fun _=>rfl) ?_
 intro (s:ByteArray) (hs:s.size≤1099511627776);simp only [kM];conv=>whnf
 refine .inl ⟨fun mm tz hz=>∃ (u:ByteArray),bw (some (.string u)::aF 12 []) tz∧hz=[]∧u.size=mm∧(ab u=ab s∧u.size≤s.size),.inl ⟨_,s,(.aa (.sk 12 .nil rfl)),rfl,rfl,?_⟩,?_⟩
 ·exact ⟨rfl,Nat.le_refl _⟩
 rintro mm aV _ ⟨u,aA,rfl,rfl,⟨hu,hle⟩⟩
 obtain ⟨az,rfl⟩:∃ az:Nat→Value,aV=.string u::zs az 1 12 []:=bI aA;clear aA;conv=>whnf
 refine aM (fun h1=>?_) (fun h1=>?_)
 ·simp only [h1];conv=>whnf
  rw [qF] at h1;have h1:u.size≠0:=fun h=>by simp [F3.2 h] at h1
  refine ⟨⟨by omega,by omega⟩,?_⟩
  conv=>whnf
  refine aM (fun J=>?_) (fun J=>?_)
  ·conv=>whnf
   refine ⟨⟨by omega,by omega,by omega⟩,?_⟩
   conv=>whnf
   have e1:u.extract (Int.toNat 1) (Int.toNat u.size)=u.extract 1 u.size:=rfl;have J:bW u 0=0:=by
    have J:((bW u 0:Nat):Int)=0:=by simpa using J
    omega
   have h3:=uo (s:=u) (i:=0) (by omega)
   have h4:=gx u;have aW:(u.extract 1 u.size).size=u.size - 1:=E8 (by omega) (Nat.le_refl _)
   have hb:ab (u.extract 1 u.size)=ab u:=by
    rw [Fb (by omega) (Nat.le_refl _),Nat.sub_self,Nat.pow_zero,Nat.div_one]
    refine Nat.mod_eq_of_lt ?_;rw [J,Nat.sub_zero] at h3;have h5:ab u / C ^ (u.size - 1) < C:=(Nat.div_lt_iff_lt_mul (gZ _)).2 (by
     rw [Nat.mul_comm,← Nat.pow_succ,show (u.size - 1).succ=u.size by omega]; exact h4)
    rw [Nat.mod_eq_of_lt h5] at h3;rcases Nat.lt_or_ge (ab u) (C ^ (u.size - 1)) with h6 | h6
    ·exact h6
    ·have:=Nat.div_pos h6 (gZ _);omega
   refine .inl ⟨_,?_,u.extract 1 u.size,(.aa (.sk 12 .nil rfl)),rfl,rfl,?_⟩
   ·rw [aW]; omega
   ·exact ⟨by rw [hb,hu],by rw [aW]; omega⟩
  ·conv=>whnf
   have J:bW u 0≠0:=by
    intro h;have e:bW u (Int.toNat 0)=bW u 0:=rfl;rw [e,h] at J;simp at J
   rw [← hu,← zA (.inr J)]
 ·simp only [h1];conv=>whnf
  rw [qF] at h1;have h1:u=⟨#[]⟩:=by simpa using h1
  have J:u.size=0:=F3.1 h1;rw [← hu,← zA (.inl J)]
def Ea:Env:={ tt:=tt,eqs:=[],Φ:=fun g=>match g with
 | 165=>some (.p kM)
 | _=>none }
theorem D6:EnvOk Tryz.prog Ea:=⟨vo,fun t h=>by simp [Ea] at h,(fun g S h=>by
 simp only [Ea] at h
 split at h
 ·cases h; exact GJ
 ·cases h),fun g F h=>by simp [Ea] at h⟩
theorem CT:di Tryz.prog 161 sV:=by
 refine dQ D6 aN Tryz.func161 (enters_of Tryz.func161 (by kernel_rfl) rfl) ?_ ?_ ?_
 ·intro i b hb;cases i with
  | none=>simp [sV,LV.ah] at hb
  | some i=>simp [sV,LV.ah] at hb; rw [hb]; rfl
 ·intro i b hb; simp [sV] at hb
 intro i hp;cases i with
 | none =>
  conv=>whnf
  refine .inr ⟨1,?_⟩;conv=>whnf
  exact ⟨_,rfl,.refl _⟩
 | some i =>
  obtain ⟨n,N,c⟩:=i;have hp:N < 4294967296 ^ n∧n≤274877906944:=hp;conv=>whnf
  refine .inl ⟨fun mm tz hz=>∃ (m:Nat),bw (some (.slice (some ⟨0,0,none⟩) m c)::aF 20 []) tz∧hz=[some (.flat false n 1 (bn N))]∧m=mm∧(N < 4294967296 ^ m∧m≤n),.inl ⟨_,n,(.aa (.sk 20 .nil rfl)),rfl,rfl,?_⟩,?_⟩
  ·exact ⟨hp.1,Nat.le_refl _⟩
  rintro mm aV _ ⟨m,aA,rfl,rfl,h⟩
  obtain ⟨az,rfl⟩:∃ az:Nat→Value,aV=.slice (some ⟨0,0,none⟩) m c::zs az 1 20 []:=bI aA;clear aA;conv=>whnf
  refine aM (fun h1=>?_) (fun h1=>?_)
  ·simp only [h1];have h1:0 < m:=by simpa using h1
   conv=>whnf
   try simp (disch:=omega) only [ax,bK,dk,dJ,cf,dY,dz,ef,dc,dq,dy,dH,dA,dP,toNat_cast,aw,Nat.zero_add,dX,toNat_0,toNat_1,Nat.sub_zero,eh,eD,eG,eH,dR,eg,dZ,eE]
   refine ⟨⟨by omega,by omega⟩,?_⟩
   try simp (disch:=omega) only [ax,bK,dk,dJ,cf,dY,dz,ef,dc,dq,dy,dH,dA,dP,toNat_cast,aw,Nat.zero_add,dX,toNat_0,toNat_1,Nat.sub_zero,eh,eD,eG,eH,dR,eg,dZ,eE]
   conv=>whnf
   refine ⟨by omega,?_⟩
   conv=>whnf
   refine aM (fun J=>?_) (fun J=>?_)
   ·have J:an N (m - 1)=0:=by
     have J:((an N (m - 1):Nat):Int)=0:=by simpa using J
     omega
    conv=>whnf
    try simp (disch:=omega) only [ax,bK,dk,dJ,cf,dY,dz,ef,dc,dq,dy,dH,dA,dP,toNat_cast,aw,Nat.zero_add,dX,toNat_0,toNat_1,Nat.sub_zero,eh,eD,eG,eH,dR,eg,dZ,eE]
    refine ⟨⟨by omega,by omega,by omega⟩,?_⟩
    try simp (disch:=omega) only [ax,bK,dk,dJ,cf,dY,dz,ef,dc,dq,dy,dH,dA,dP,toNat_cast,aw,Nat.zero_add,dX,toNat_0,toNat_1,Nat.sub_zero,eh,eD,eG,eH,dR,eg,dZ,eE]
    conv=>whnf
    refine .inl ⟨_,?_,m - 1,(.aa (.sk 20 .nil rfl)),rfl,rfl,?_⟩
    ·omega
    ·refine ⟨?_,by omega⟩
     have h3:=mod_succ N (m - 1);have h4:=Nat.mod_lt N (eF (m - 1));rw [show m - 1+1=m by omega,J,Nat.mod_eq_of_lt h.1] at h3
     have h5:N % B ^ (m - 1) < 4294967296 ^ (m - 1):=h4;omega
   ·have J:an N (m - 1)≠0:=by
     intro h;rw [h] at J;simp at J
    conv=>whnf
    have e:=PZ (N:=N) (n:=m) h.1 (.inr J);refine ⟨_,rfl,?_⟩;rw [e];exact .refl _
  ·simp only [h1];have h1:m=0:=by simpa using h1
   conv=>whnf
   have e:=PZ (N:=N) (n:=m) h.1 (.inl h1);refine ⟨_,rfl,?_⟩;rw [e];exact .refl _
theorem CU:di Tryz.prog 135 vh:=by
 refine dQ D6 aN Tryz.func135 (enters_of Tryz.func135 (by kernel_rfl) rfl) ?_ ?_ ?_
 ·intro i b hb; simp [vh] at hb
 ·intro i b hb; simp [vh] at hb; rw [← hb]; rfl
 intro (s:ByteArray) (hs:s.size≤1099511627776);conv=>whnf
 refine ⟨s,rfl,hs,?_⟩;conv=>whnf
 have aW:=jh s;have ck:=Pf (ab s);generalize hN:ab s=N at *;have e1:IntKind.i64.wrap ((IntKind.i64.wrap (IntKind.i64.wrap (((nb N).size:Int)+4) - 1)).tdiv 4)=((nl N:Nat):Int):=by
  rw [gG];simp (disch:=omega) only [ax];have:((aS N:Int)+4 - 1)=((aS N+3:Nat):Int):=by omega
  rw [this,dR,ax (by omega) (by omega),ck]
 simp only [e1];refine ⟨⟨by omega,by omega,by show _*((4:Nat):Int)≤_; omega⟩,?_⟩
 try simp (disch:=omega) only [ax,bK,dk,dJ,cf,dY,dz,ef,dc,dq,dy,dH,dA,dP,toNat_cast,aw,Nat.zero_add,dX,toNat_0,toNat_1,Nat.sub_zero,eh,eD,eG,eH,dR,eg,dZ,eE]
 conv=>whnf
 simp only [ue];refine .inl ⟨fun mm tz hz=>∃ (i:Nat) (Y:Nat),bw (some (.string (nb N))::aF 2 (some (.slice (some ⟨0,0,none⟩) (nl N) (nl N))::aF 11 (some (.int .i64 (nb N).size)::some (.int .i64 i)::aF 24 []))) tz∧hz=[some (.flat true (nl N) 1 (bn Y))]∧aS N - i=mm∧(i≤aS N∧Y=N % C ^ i),.inl ⟨_,0,0,(.aa (.sk 2 (.aa (.sk 11 (.aa (.aa (.sk 24 .nil rfl))) rfl)) rfl)),rfl,rfl,?_⟩,?_⟩
 ·exact ⟨Nat.zero_le _,by simp [Nat.mod_one]⟩
 rintro mm aV _ ⟨i,Y,aA,rfl,rfl,⟨h,hY⟩⟩
 obtain ⟨az,rfl⟩:∃ az:Nat→Value,aV=.string (nb N)::zs az 1 2 (.slice (some ⟨0,0,none⟩) (nl N) (nl N)::zs az 4 11 (.int .i64 (nb N).size::.int .i64 i::zs az 17 24 [])):=bI aA;clear aA;have DV:=gG N;conv=>whnf
 refine aM (fun h1=>?_) (fun h1=>?_)
 ·have h1:i < aS N:=by rw [DV] at h1; simpa using h1
  conv=>whnf
  have A8:=wT (nb N) ((nb N).size - 1 - i);have dv:bW (nb N) ((nb N).size - 1 - i)=N / C ^ i % C:=by
   rw [uo (by omega),ij]; congr 3; omega
  obtain ⟨ar,al⟩:=Vp N i;rw [← hY,← dv] at ar;rw [← hY] at al;have hd:=T5 _ _ _ al A8 (Nat.mod_lt _ (by omega))
  have bQ:an Y (i / 4)+bW (nb N) ((nb N).size - 1 - i)*256 ^ (i % 4) < B:=by
   have J:(bW (nb N) ((nb N).size - 1 - i)+1)*256 ^ (i % 4)≤256*256 ^ (i % 4):=Nat.mul_le_mul_right _ A8;have h3:256*256 ^ (i % 4)≤B:=by
    have:(256:Nat) ^ (i % 4)≤256 ^ 3:=Nat.pow_le_pow_right (by decide) (by omega)
    have e:(256:Nat) ^ 3=16777216:=rfl;have e2:B=4294967296:=rfl;omega
   rw [Nat.add_mul] at J;omega
  refine .inl ⟨13,[[],[],[1],[0,1,2],[0,1,2,3],[],[],[5,6],[5,6,7],[],[9],[9,10],[5,6,7,8,9,10,11],[0,1,2,3,4,5,6,7,8,9,10,11,12],[0,1,2,3,4,5,6,7,8,9,10,11,12,13],[0,1,2,3,4,5,6,7,8,9,10,11,12,13,14]],by kernel_rfl,?_⟩
  conv=>whnf
  try simp (disch:=omega) only [ax,bK,dk,dJ,cf,dY,dz,ef,dc,dq,dy,dH,dA,dP,toNat_cast,aw,Nat.zero_add,dX,toNat_0,toNat_1,Nat.sub_zero,eh,eD,eG,eH,dR,eg,dZ,eE]
  refine ⟨⟨by omega,by omega⟩,?_⟩
  conv=>whnf
  refine ⟨by show i / 4 < nl N; omega,?_⟩
  conv=>whnf
  refine ⟨⟨by omega,by omega⟩,?_⟩
  conv=>whnf
  have afR:bW (nb N) ((nb N).size - 1 - i) < 256:=A8
  try simp (disch:=omega) only [ax,bK,dk,dJ,cf,dY,dz,ef,dc,dq,dy,dH,dA,dP,toNat_cast,aw,Nat.zero_add,dX,toNat_0,toNat_1,Nat.sub_zero,eh,eD,eG,eH,dR,eg,dZ,eE]
  simp only [Int.natCast_nonneg,decide_true];conv=>whnf
  simp only [hd];refine ⟨⟨by omega,by omega⟩,?_⟩
  conv=>whnf
  refine ⟨by show i / 4 < nl N; omega,?_⟩
  conv=>whnf
  try simp (disch:=omega) only [ax,bK,dk,dJ,cf,dY,dz,ef,dc,dq,dy,dH,dA,dP,toNat_cast,aw,Nat.zero_add,dX,toNat_0,toNat_1,Nat.sub_zero,eh,eD,eG,eH,dR,eg,dZ,eE]
  rw [fF bQ,ar];refine .inr ⟨[0],[0,3,15,16],?_⟩;conv=>whnf
  intro _;conv=>whnf
  refine ⟨_,?_,i+1,N % C ^ (i+1),(.aa (.sk 2 (.aa (.sk 11 (.aa (.aa (.sk 24 .nil rfl))) rfl)) rfl)),rfl,rfl,?_⟩
  ·omega
  ·exact ⟨by omega,rfl⟩
 ·have h1:i=aS N:=by
   have h1:¬ i < aS N:=by rw [DV] at h1; simpa using h1
   omega
  subst h1;have hYN:Y=ab s:=by rw [hY,hN,Nat.mod_eq_of_lt (lF N)]
  conv=>whnf
  refine ⟨0,?_⟩;conv=>whnf
  rw [hYN,hN];refine ⟨⟨rfl,aH.aT (fun h=>by cases h) (fun r hr=>rfl)⟩,_,rfl,?_⟩
  rw [hN];exact .cap _ _ _ rfl
open Go Go.Ae
theorem Xy:di Tryz.prog 162 zB:=by
 refine dQ D6 aN Tryz.func162 (enters_of Tryz.func162 (by kernel_rfl) rfl) ?_ ?_ ?_
 ·intro i b hb;cases i with
  | none=>simp [zB,LV.ah] at hb
  | some i=>simp [zB,LV.ah] at hb; rw [hb]; rfl
 ·intro i b hb; simp [zB] at hb
 intro i hp;cases i with
 | none =>
  conv=>whnf
  refine .inr ⟨1,?_⟩;conv=>whnf
  refine ⟨⟨#[]⟩,rfl,Nat.zero_le _,?_⟩;conv=>whnf
  exact ⟨_,rfl,.refl _⟩
 | some i =>
  obtain ⟨n,N,c⟩:=i;have hp:N < 4294967296 ^ n∧n≤274877906944:=hp;conv=>whnf
  refine .inl ⟨fun mm tz hz=>∃ (i:Nat) (out:Value) (hp:ay),bw (some (.slice (some ⟨0,0,none⟩) n c)::aF 2 (some (out)::some (.int .i64 (IntKind.i64.wrap ((i:Int) - 1)))::aF 36 [])) tz∧hz=hp∧i=mm∧(i≤n∧((out=.slice none 0 0∧hp=[some (.flat false n 1 (bn N))]∧i=n)∨(∃ m g,out=.slice (some ⟨1,0,none⟩) m aI∧hp=[some (.flat false n 1 (bn N)),some (.flat true m 1 g)]∧m=4*(n - i)∧∀ r,r < m→g r=[.int .u8 ((N / B ^ i / C ^ (m - 1 - r) % C:Nat):Int)]))),.inl ⟨_,n,.slice none 0 0,[some (.flat false n 1 (bn N))],(.aa (.sk 2 (.aa (.aa (.sk 36 .nil rfl))) rfl)),rfl,rfl,?_⟩,?_⟩
  ·exact ⟨Nat.le_refl _,.inl ⟨rfl,rfl,rfl⟩⟩
  rintro mm aV _ ⟨i,out,hp,aA,rfl,rfl,⟨hi,h⟩⟩
  obtain ⟨az,rfl⟩:∃ az:Nat→Value,aV=.slice (some ⟨0,0,none⟩) n c::zs az 1 2 (out::.int .i64 (IntKind.i64.wrap ((i:Int) - 1))::zs az 5 36 []):=bI aA;clear aA;rcases h with ⟨rfl,rfl,rfl⟩ | ⟨m,g,rfl,rfl,rfl,hg⟩
  ·-- nothing written yet
   conv=>whnf
   refine aM (fun h1=>?_) (fun h1=>?_)
   ·have h1:0 < i:=by
     rcases Nat.eq_zero_or_pos i with h | h
     ·subst h; revert h1; decide
     ·exact h
    have hl:=cH N (i - 1);have hl:an N (i - 1) < 4294967296:=hl;have ei:IntKind.i64.wrap ((i:Int) - 1)=((i - 1:Nat):Int):=by rw [ax (by omega) (by omega)]; omega
    simp only [ei];conv=>whnf
    refine .inl ⟨25,[[],[],[],[1,2],[1,2,3],[1,2,3,4],[1,2,3,4,5],[],[],[7,8],[7,8,9],[7,8,9,10],[7,8,9,10,11],[],[],[13,14],[13,14,15],[13,14,15,16],[13,14,15,16,17],[],[],[19,20],[19,20,21],[19,20,21,22],[1,2,3,4,5,6,7,8,9,10,11,12,13,14,15,16,17,18,19,20,21,22,23],[0,1,2,3,4,5,6,7,8,9,10,11,12,13,14,15,16,17,18,19,20,21,22,23,24],[0,1,2,3,4,5,6,7,8,9,10,11,12,13,14,15,16,17,18,19,20,21,22,23,24,25]],by kernel_rfl,?_⟩
    conv=>whnf
    refine ⟨⟨by omega,by omega⟩,?_⟩
    simp only [toNat_cast,aw,Nat.zero_add];conv=>whnf
    refine ⟨by omega,?_⟩
    conv=>whnf
    refine ⟨⟨by omega,by omega⟩,?_⟩
    simp only [toNat_cast,aw,Nat.zero_add];conv=>whnf
    refine ⟨by omega,?_⟩
    conv=>whnf
    refine ⟨⟨by omega,by omega⟩,?_⟩
    simp only [toNat_cast,aw,Nat.zero_add];conv=>whnf
    refine ⟨by omega,?_⟩
    conv=>whnf
    refine ⟨⟨by omega,by omega⟩,?_⟩
    simp only [toNat_cast,aw,Nat.zero_add];conv=>whnf
    refine ⟨by omega,?_⟩
    conv=>whnf
    simp only [dH,dy,dq,P0,P3,QJ,QM];refine ⟨by decide,?_⟩
    conv=>whnf
    refine .inr ⟨[0,26],[0,3,4],?_⟩;conv=>whnf
    intro _;conv=>whnf
    refine ⟨_,?_,i - 1,.slice (some ⟨1,0,none⟩) 4 aI,[some (.flat false i 1 (bn N)),some (.flat true 4 1 _)],(.aa (.sk 2 (.aa (.aa (.sk 36 .nil rfl))) rfl)),rfl,rfl,?_⟩
    ·omega
    ·refine ⟨by omega,.inr ⟨4,_,rfl,rfl,by omega,fun r hr=>?_⟩⟩
     have:=LQ (N:=N) (i:=i) (m:=0) (g:=fun _=>[]) h1 (fun r hr=>absurd hr (by omega)) rfl rfl rfl rfl r (by omega)
     rw [gw (by omega),Nat.sub_zero] at this
     rw [this]
   ·have h1:i=0:=by
     rcases Nat.eq_zero_or_pos i with h | h
     ·exact h
     ·rw [ax (by omega) (by omega)] at h1
      simp at h1; omega
    subst h1;have hN:N=0:=by simpa using hp.1
    subst hN;conv=>whnf
    refine ⟨⟨#[]⟩,rfl,Nat.zero_le _,?_⟩;conv=>whnf
    exact ⟨_,rfl,.refl _⟩
  ·-- behind the first limb
   conv=>whnf
   refine aM (fun h1=>?_) (fun h1=>?_)
   ·have h1:0 < i:=by
     rcases Nat.eq_zero_or_pos i with h | h
     ·subst h; revert h1; decide
     ·exact h
    have hl:=cH N (i - 1);have hl:an N (i - 1) < 4294967296:=hl;have ei:IntKind.i64.wrap ((i:Int) - 1)=((i - 1:Nat):Int):=by rw [ax (by omega) (by omega)]; omega
    simp only [ei];conv=>whnf
    refine .inl ⟨25,[[],[],[],[1,2],[1,2,3],[1,2,3,4],[1,2,3,4,5],[],[],[7,8],[7,8,9],[7,8,9,10],[7,8,9,10,11],[],[],[13,14],[13,14,15],[13,14,15,16],[13,14,15,16,17],[],[],[19,20],[19,20,21],[19,20,21,22],[1,2,3,4,5,6,7,8,9,10,11,12,13,14,15,16,17,18,19,20,21,22,23],[0,1,2,3,4,5,6,7,8,9,10,11,12,13,14,15,16,17,18,19,20,21,22,23,24],[0,1,2,3,4,5,6,7,8,9,10,11,12,13,14,15,16,17,18,19,20,21,22,23,24,25]],by kernel_rfl,?_⟩
    conv=>whnf
    refine ⟨⟨by omega,by omega⟩,?_⟩
    simp only [toNat_cast,aw,Nat.zero_add];conv=>whnf
    refine ⟨by omega,?_⟩
    conv=>whnf
    refine ⟨⟨by omega,by omega⟩,?_⟩
    simp only [toNat_cast,aw,Nat.zero_add];conv=>whnf
    refine ⟨by omega,?_⟩
    conv=>whnf
    refine ⟨⟨by omega,by omega⟩,?_⟩
    simp only [toNat_cast,aw,Nat.zero_add];conv=>whnf
    refine ⟨by omega,?_⟩
    conv=>whnf
    refine ⟨⟨by omega,by omega⟩,?_⟩
    simp only [toNat_cast,aw,Nat.zero_add];conv=>whnf
    refine ⟨by omega,?_⟩
    conv=>whnf
    simp only [dH,dy,dq,P0,P3,QJ,QM];refine ⟨⟨by decide,rfl,?_⟩,?_⟩
    ·show (4*(n - i)+4)*1≤_
     omega
    conv=>whnf
    refine ⟨[0,4],?_⟩;conv=>whnf
    intro _;conv=>whnf
    refine .inr ⟨[0,1],[0,3,4],?_⟩;conv=>whnf
    intro _;conv=>whnf
    refine ⟨_,?_,i - 1,.slice (some ⟨1,0,none⟩) (4*(n - i)+4) aI,[some (.flat false n 1 (bn N)),some (.flat true (4*(n - i)+4) 1 _)],(.aa (.sk 2 (.aa (.aa (.sk 36 .nil rfl))) rfl)),rfl,rfl,?_⟩
    ·omega
    ·exact ⟨by omega,.inr ⟨4*(n - i)+4,_,rfl,rfl,by omega,LQ h1 hg rfl rfl rfl rfl⟩⟩
   ·have h1:i=0:=by
     rcases Nat.eq_zero_or_pos i with h | h
     ·exact h
     ·rw [ax (by omega) (by omega)] at h1
      simp at h1; omega
    subst h1;rw [Nat.pow_zero,Nat.div_one] at hg;rw [Nat.sub_zero] at hg;have al:N < C ^ (4*n):=by rw [← DY]; exact hp.1
    by_cases hn:n=0
    ·subst hn;have hN:N=0:=by simpa using hp.1
     subst hN;conv=>whnf
     refine ⟨⟨#[]⟩,rfl,Nat.zero_le _,?_⟩;conv=>whnf
     exact ⟨_,rfl,.refl _⟩
    ·obtain ⟨m,hm⟩:∃ m,4*n=m+1:=⟨4*n - 1,by omega⟩
     rw [hm] at hg al;rw [Nat.sub_zero,hm];have hs:=wM hg;conv=>whnf
     refine ⟨⟨by show 0+(m+1)≤m+1; omega,fun r hr=>⟨_,by show g (0+r)=_; rw [Nat.zero_add]; exact hg r hr⟩⟩,?_⟩
     rw [show (ai.flat true (m+1) 1 g).row=g from rfl,hs]
     conv=>whnf
     refine ⟨be (m+1) N,rfl,?_,?_⟩
     ·show (be (m+1) N).size≤_
      rw [xp]; omega
     conv=>whnf
     rw [GY,Nat.mod_eq_of_lt al];exact ⟨_,rfl,.refl _⟩
def Eb:Env:={ tt:=tt,eqs:=[],Φ:=fun g=>match g with
 | 165=>some (.p kM)
 | 161=>some (.q sV)
 | 162=>some (.q zB)
 | 135=>some (.q vh)
 | _=>none }
theorem Q0:EnvOk Tryz.prog Eb:=⟨vo,fun t h=>by simp [Eb] at h,(fun g S h=>by
 simp only [Eb] at h
 split at h
 ·cases h; exact GJ
 ·cases h; exact CT
 ·cases h; exact Xy
 ·cases h; exact CU
 ·cases h),fun g F h=>by simp [Eb] at h⟩
theorem Hk:di Tryz.prog 131 vi:=by
 refine dQ Q0 aN Tryz.func131 (enters_of Tryz.func131 (by kernel_rfl) rfl) ?_ ?_ ?_
 ·intro i b hb;obtain ⟨neg,i⟩:=i;cases i with
  | none=>simp [vi,LV.ah] at hb
  | some i=>simp [vi,LV.ah] at hb; rw [hb]; rfl
 ·intro i b hb; simp [vi] at hb
 intro ⟨neg,i⟩ hp;have fin:∀ N:Nat,(!(nb N).toList == (⟨#[]⟩:ByteArray).toList)=(N != 0):=by
  intro N;rw [qF];by_cases h:N=0
  ·subst h; simp [oZ]
  ·simp [h,KW]
 cases i with
 | none =>
  cases neg
  all_goals
   conv=>whnf
   refine ⟨none,[],rfl,trivial,?_⟩;conv=>whnf
   refine ⟨_,rfl,?_⟩;conv=>whnf
   refine ⟨none,[],rfl,trivial,?_⟩;conv=>whnf
   refine ⟨_,rfl,?_⟩;conv=>whnf
   simp only [LV.num,fin];exact ⟨_,rfl,.refl _⟩
 | some i =>
  obtain ⟨n,N,c⟩:=i;have hp:N < 4294967296 ^ n∧n≤274877906944:=hp;have ck:=jO hp.1;cases neg
  all_goals
   conv=>whnf
   refine ⟨some (n,N,c),[0],rfl,hp,?_⟩;conv=>whnf
   refine ⟨aH.aT (fun h=>h) (fun r hr=>rfl),?_⟩
   conv=>whnf
   refine ⟨_,rfl,?_⟩;conv=>whnf
   refine ⟨some (nl N,N,c),[0],rfl,⟨bV N,by omega⟩,?_⟩
   conv=>whnf
   refine ⟨?_,?_⟩
   ·exact ⟨(fun h=>by cases h),rfl,ck,fun _ _=>rfl,fun r hr v hv=>dI (l:=bn N r) rfl v hv⟩
   conv=>whnf
   refine ⟨_,rfl,?_⟩;conv=>whnf
   simp only [LV.num,fin];exact ⟨_,rfl,.refl _⟩
open Go Go.Ae
theorem FJ:di Tryz.prog 136 xc:=by
 refine dQ Q0 aN Tryz.func136 (enters_of Tryz.func136 (by kernel_rfl) rfl) ?_ ?_ ?_
 ·intro i b hb; simp [xc,km] at hb; rcases hb with rfl | rfl <;> rfl
 ·intro i b hb; simp [xc] at hb
 intro ⟨A,ca,D,cd⟩ hp;have hp:nl A≤137438953472∧nl D≤137438953472:=hp;conv=>whnf
 refine aM (fun h=>?_) (fun h=>?_)
 ·have h:nl A≠nl D:=by
   intro e;have e':((nl A:Nat):Int)=((nl D:Nat):Int):=by rw [e]
   simp [e'] at h
  conv=>whnf
  refine aM (fun J=>?_) (fun J=>?_)
  ·have J:nl A < nl D:=by simpa using J
   conv=>whnf
   have:=Lf J;refine ⟨_,rfl,?_⟩;simp only [cM,if_pos this];exact .refl _
  ·have J:nl D < nl A:=by
    have J:¬ nl A < nl D:=by simpa using J
    omega
   conv=>whnf
   have:=Lf J;refine ⟨_,rfl,?_⟩;simp only [cM,if_neg (show ¬ A < D by omega),if_pos this]
   exact .refl _
 ·have h:nl D=nl A:=by
   by_cases e:nl A=nl D
   ·exact e.symm
   ·have e':((nl A:Nat):Int)≠((nl D:Nat):Int):=by omega
    simp [e'] at h
  conv=>whnf
  refine .inl ⟨fun mm tz hz=>∃ (i:Nat),bw (some (.slice (some ⟨0,0,none⟩) (nl A) ca)::some (.slice (some ⟨1,0,none⟩) (nl D) cd)::aF 3 (some (.int .i64 (IntKind.i64.wrap ((i:Int) - 1)))::aF 37 [])) tz∧hz=[some (.flat false (nl A) 1 (bn A)),some (.flat false (nl D) 1 (bn D))]∧i=mm∧(i≤nl A∧A / B ^ i=D / B ^ i),.inl ⟨_,nl A,(.aa (.aa (.sk 3 (.aa (.sk 37 .nil rfl)) rfl))),rfl,rfl,?_⟩,?_⟩
  ·refine ⟨Nat.le_refl _,?_⟩;have h1:=bV A;have J:=bV D;rw [h] at J;rw [Nat.div_eq_of_lt h1,Nat.div_eq_of_lt J]
  rintro mm aV _ ⟨i,aA,rfl,rfl,⟨hi,he⟩⟩
  obtain ⟨az,rfl⟩:∃ az:Nat→Value,aV=.slice (some ⟨0,0,none⟩) (nl A) ca::.slice (some ⟨1,0,none⟩) (nl D) cd::zs az 2 3 (.int .i64 (IntKind.i64.wrap ((i:Int) - 1))::zs az 6 37 []):=bI aA;clear aA;conv=>whnf
  refine aM (fun h1=>?_) (fun h1=>?_)
  ·have h1:0 < i:=by
    rcases Nat.eq_zero_or_pos i with h | h
    ·subst h; revert h1; decide
    ·exact h
   have ei:IntKind.i64.wrap ((i:Int) - 1)=((i - 1:Nat):Int):=by rw [ax (by omega) (by omega)]; omega
   have hA:=qi A (i - 1);have hD:=qi D (i - 1);rw [show i - 1+1=i by omega] at hA hD
   rw [← he] at hD;simp only [ei];conv=>whnf
   refine .inl ⟨8,[[],[],[0,1],[0,1,2],[],[],[4,5],[4,5,6],[0,1,2,3,4,5,6,7],[0,1,2,3,4,5,6,7,8]],by kernel_rfl,?_⟩
   conv=>whnf
   refine ⟨⟨by omega,by omega⟩,?_⟩
   try simp (disch:=omega) only [ax,bK,dk,dJ,cf,dY,dz,ef,dc,dq,dy,dH,dA,dP,toNat_cast,aw,Nat.zero_add,dX,toNat_0,toNat_1,Nat.sub_zero,eh,eD,eG,eH,dR,eg,dZ,eE]
   conv=>whnf
   refine ⟨by show i - 1 < nl A; omega,?_⟩
   conv=>whnf
   refine ⟨⟨by omega,by omega⟩,?_⟩
   try simp (disch:=omega) only [ax,bK,dk,dJ,cf,dY,dz,ef,dc,dq,dy,dH,dA,dP,toNat_cast,aw,Nat.zero_add,dX,toNat_0,toNat_1,Nat.sub_zero,eh,eD,eG,eH,dR,eg,dZ,eE]
   conv=>whnf
   refine ⟨by show i - 1 < nl D; omega,?_⟩
   conv=>whnf
   refine aM (fun J=>?_) (fun J=>?_)
   ·have J:an A (i - 1) < an D (i - 1):=by simpa using J
    conv=>whnf
    have al:A < D:=by
     rcases Nat.lt_or_ge A D with h | h
     ·exact h
     ·have:=Nat.div_le_div_right (c:=B ^ (i - 1)) h;omega
    refine ⟨_,rfl,?_⟩;simp only [cM,if_pos al];exact .refl _
   ·have J:an D (i - 1)≤an A (i - 1):=by simpa using J
    conv=>whnf
    refine .inl ⟨8,[[],[],[0,1],[0,1,2],[],[],[4,5],[4,5,6],[0,1,2,3,4,5,6,7],[0,1,2,3,4,5,6,7,8]],by kernel_rfl,?_⟩
    conv=>whnf
    refine ⟨⟨by omega,by omega⟩,?_⟩
    try simp (disch:=omega) only [ax,bK,dk,dJ,cf,dY,dz,ef,dc,dq,dy,dH,dA,dP,toNat_cast,aw,Nat.zero_add,dX,toNat_0,toNat_1,Nat.sub_zero,eh,eD,eG,eH,dR,eg,dZ,eE]
    conv=>whnf
    refine ⟨by show i - 1 < nl A; omega,?_⟩
    conv=>whnf
    refine ⟨⟨by omega,by omega⟩,?_⟩
    try simp (disch:=omega) only [ax,bK,dk,dJ,cf,dY,dz,ef,dc,dq,dy,dH,dA,dP,toNat_cast,aw,Nat.zero_add,dX,toNat_0,toNat_1,Nat.sub_zero,eh,eD,eG,eH,dR,eg,dZ,eE]
    conv=>whnf
    refine ⟨by show i - 1 < nl D; omega,?_⟩
    conv=>whnf
    refine aM (fun h3=>?_) (fun h3=>?_)
    ·have h3:an D (i - 1) < an A (i - 1):=by simpa using h3
     conv=>whnf
     have al:D < A:=by
      rcases Nat.lt_or_ge D A with h | h
      ·exact h
      ·have:=Nat.div_le_div_right (c:=B ^ (i - 1)) h;omega
     refine ⟨_,rfl,?_⟩;simp only [cM,if_neg (show ¬ A < D by omega),if_pos al]
     exact .refl _
    ·have h3:an A (i - 1)≤an D (i - 1):=by simpa using h3
     conv=>whnf
     refine .inr ⟨[0,1],[0,1,5],?_⟩;conv=>whnf
     intro _;conv=>whnf
     refine ⟨_,?_,i - 1,(.aa (.aa (.sk 3 (.aa (.sk 37 .nil rfl)) rfl))),rfl,rfl,?_⟩
     ·omega
     ·refine ⟨by omega,?_⟩
      rw [hA,hD,show an A (i - 1)=an D (i - 1) by omega]
  ·have h1:i=0:=by
    rcases Nat.eq_zero_or_pos i with h | h
    ·exact h
    ·rw [ax (by omega) (by omega)] at h1
     simp at h1; omega
   subst h1;rw [Nat.pow_zero,Nat.div_one,Nat.div_one] at he;conv=>whnf
   refine ⟨_,rfl,?_⟩;simp only [cM,he,Nat.lt_irrefl,if_false];exact .refl _
def Ec:Env:={ tt:=tt,eqs:=[],Φ:=fun g=>match g with
 | 165=>some (.p kM)
 | 161=>some (.q sV)
 | 167=>some (.p lG)
 | _=>none }
theorem I7:EnvOk Tryz.prog Ec:=⟨vo,fun t h=>by simp [Ec] at h,(fun g S h=>by
 simp only [Ec] at h
 split at h
 ·cases h; exact GJ
 ·cases h; exact CT
 ·cases h; exact N7
 ·cases h),fun g F h=>by simp [Ec] at h⟩
theorem Xz:di Tryz.prog 143 C9:=by
 refine dQ I7 aN Tryz.func143 (enters_of Tryz.func143 (by kernel_rfl) rfl) ?_ ?_ ?_
 ·intro i b hb; simp [C9,km] at hb; rcases hb with rfl | rfl <;> rfl
 ·intro i b hb; simp [C9] at hb; rw [← hb]; rfl
 intro ⟨A,ca,D,cd⟩ hp;have hp:(nl A≤137438953472∧nl D≤137438953472)∧D≤A:=hp;have ck:=lB hp.2;conv=>whnf
 refine ⟨⟨by omega,by omega,by show ((nl A:Nat):Int)*((4:Nat):Int)≤_; omega⟩,?_⟩
 simp only [toNat_cast,ue];conv=>whnf
 refine .inl ⟨fun mm tz hz=>∃ (i:Nat) (Y:Nat) (b:Nat),bw (some (.slice (some ⟨0,0,none⟩) (nl A) ca)::some (.slice (some ⟨1,0,none⟩) (nl D) cd)::aF 3 (some (.slice (some ⟨2,0,none⟩) (nl A) (nl A))::some (.int .u32 b)::aF 6 (some (.slice (some ⟨0,0,none⟩) (nl A) ca)::some (.int .i64 (nl A))::some (.int .i64 i)::aF 25 []))) tz∧hz=[some (.flat false (nl A) 1 (bn A)),some (.flat false (nl D) 1 (bn D)),some (.flat true (nl A) 1 (bn Y))]∧nl A - i=mm∧(i≤nl A∧b≤1∧Y < B ^ i∧A % B ^ i+b*B ^ i=Y+D % B ^ i),.inl ⟨_,0,0,0,(.aa (.aa (.sk 3 (.aa (.aa (.sk 6 (.aa (.aa (.aa (.sk 25 .nil rfl)))) rfl))) rfl))),rfl,rfl,?_⟩,?_⟩
 ·simp [Nat.mod_one]
 rintro mm aV _ ⟨i,Y,b,aA,rfl,rfl,⟨hi,hb,hY,he⟩⟩
 obtain ⟨az,rfl⟩:∃ az:Nat→Value,aV=.slice (some ⟨0,0,none⟩) (nl A) ca::.slice (some ⟨1,0,none⟩) (nl D) cd::zs az 2 3 (.slice (some ⟨2,0,none⟩) (nl A) (nl A)::.int .u32 b::zs az 7 6 (.slice (some ⟨0,0,none⟩) (nl A) ca::.int .i64 (nl A)::.int .i64 i::zs az 16 25 [])):=bI aA;clear aA;conv=>whnf
 refine aM (fun h1=>?_) (fun h1=>?_)
 ·have h1:i < nl A:=by simpa using h1
  conv=>whnf
  refine ⟨⟨by omega,by omega⟩,?_⟩
  try simp (disch:=omega) only [ax,bK,dk,dJ,cf,dY,dz,ef,dc,dq,dy,dH,dA,dP,toNat_cast,aw,Nat.zero_add,dX,toNat_0,toNat_1,Nat.sub_zero,eh,eD,eG,eH,dR,eg,dZ,eE]
  conv=>whnf
  refine ⟨by show i < nl A; omega,?_⟩
  conv=>whnf
  have tU:=cH A i;have EN:=cH D i;have dh:∃ d,d=(an A i+2*4294967296 - an D i - b) % 4294967296:=⟨_,rfl⟩;obtain ⟨d,hd⟩:=dh;have dO:d < B:=by rw [hd]; exact Nat.mod_lt _ (by decide)
  have ar:=T6 (b':=if an A i < an D i+b then 1 else 0) hY he (by
   have e:B=4294967296:=rfl
   split <;> omega) dO
  refine aM (fun J=>?_) (fun J=>?_)
  ·have J:i < nl D:=by simpa using J
   conv=>whnf
   refine ⟨⟨by omega,by omega⟩,?_⟩
   try simp (disch:=omega) only [ax,bK,dk,dJ,cf,dY,dz,ef,dc,dq,dy,dH,dA,dP,toNat_cast,aw,Nat.zero_add,dX,toNat_0,toNat_1,Nat.sub_zero,eh,eD,eG,eH,dR,eg,dZ,eE]
   conv=>whnf
   refine ⟨by show i < nl D; omega,?_⟩
   conv=>whnf
   refine ⟨(an A i,an D i,b),rfl,⟨tU,EN,hb⟩,?_⟩;simp only [lG,← hd];conv=>whnf
   refine ⟨⟨by omega,by omega⟩,?_⟩
   try simp (disch:=omega) only [ax,bK,dk,dJ,cf,dY,dz,ef,dc,dq,dy,dH,dA,dP,toNat_cast,aw,Nat.zero_add,dX,toNat_0,toNat_1,Nat.sub_zero,eh,eD,eG,eH,dR,eg,dZ,eE]
   conv=>whnf
   refine ⟨by show i < nl A; omega,?_⟩
   conv=>whnf
   try simp (disch:=omega) only [ax,bK,dk,dJ,cf,dY,dz,ef,dc,dq,dy,dH,dA,dP,toNat_cast,aw,Nat.zero_add,dX,toNat_0,toNat_1,Nat.sub_zero,eh,eD,eG,eH,dR,eg,dZ,eE]
   rw [fF dO];refine .inl ⟨_,?_,i+1,cE Y i d,if an A i < an D i+b then 1 else 0,(.aa (.aa (.sk 3 (.aa (.aa (.sk 6 (.aa (.aa (.aa (.sk 25 .nil rfl)))) rfl))) rfl))),rfl,rfl,?_⟩
   ·omega
   ·exact ⟨by omega,by split <;> omega,ar.1,ar.2⟩
  ·have J:nl D≤i:=by
    have J:¬ i < nl D:=by simpa using J
    omega
   have h0:=uz (bV D) J;rw [h0] at hd ar;rw [Nat.zero_add] at ar;conv=>whnf
   refine ⟨(an A i,0,b),rfl,⟨tU,(by show 0 < 4294967296; decide),hb⟩,?_⟩
   simp only [lG,← hd];conv=>whnf
   refine ⟨⟨by omega,by omega⟩,?_⟩
   try simp (disch:=omega) only [ax,bK,dk,dJ,cf,dY,dz,ef,dc,dq,dy,dH,dA,dP,toNat_cast,aw,Nat.zero_add,dX,toNat_0,toNat_1,Nat.sub_zero,eh,eD,eG,eH,dR,eg,dZ,eE]
   conv=>whnf
   refine ⟨by show i < nl A; omega,?_⟩
   conv=>whnf
   try simp (disch:=omega) only [ax,bK,dk,dJ,cf,dY,dz,ef,dc,dq,dy,dH,dA,dP,toNat_cast,aw,Nat.zero_add,dX,toNat_0,toNat_1,Nat.sub_zero,eh,eD,eG,eH,dR,eg,dZ,eE]
   rw [fF dO];refine .inl ⟨_,?_,i+1,cE Y i d,if an A i < b then 1 else 0,(.aa (.aa (.sk 3 (.aa (.aa (.sk 6 (.aa (.aa (.aa (.sk 25 .nil rfl)))) rfl))) rfl))),rfl,rfl,?_⟩
   ·omega
   ·exact ⟨by omega,by split <;> omega,ar.1,ar.2⟩
 ·have h1:i=nl A:=by
   have h1:¬ i < nl A:=by simpa using h1
   omega
  subst h1;have EO:Y=A - D∧b=0:=by
   rw [Nat.mod_eq_of_lt (bV A),Nat.mod_eq_of_lt (Nat.lt_of_le_of_lt hp.2 (bV A))] at he;rcases Nat.eq_zero_or_pos b with h | h
   ·subst h; omega
   ·have:b=1:=by omega
    subst this;omega
  conv=>whnf
  refine ⟨some (nl A,Y,nl A),[2],rfl,⟨hY,by omega⟩,?_⟩
  conv=>whnf
  refine ⟨aH.aT (fun h=>by cases h) (fun r hr=>rfl),?_⟩
  conv=>whnf
  refine ⟨_,rfl,?_⟩;conv=>whnf
  refine ⟨2,?_⟩;conv=>whnf
  rw [EO.1];have hle:=lB (show A - D≤A by omega)
  refine ⟨⟨rfl,⟨(fun h=>by cases h),rfl,hle,fun _ _=>rfl,fun r hr v hv=>dI (l:=bn (A - D) r) rfl v hv⟩⟩,_,rfl,?_⟩
  exact .cap _ _ _ rfl
open Go Go.Ae
theorem XA:di Tryz.prog 139 Da:=by
 refine dQ I7 aN Tryz.func139 (enters_of Tryz.func139 (by kernel_rfl) rfl) ?_ ?_ ?_
 ·intro i b hb; simp [Da,km] at hb; rcases hb with rfl | rfl <;> rfl
 ·intro i b hb; simp [Da] at hb; rw [← hb]; rfl
 intro ⟨A,ca,D,cd⟩ hp;have hp:nl A≤137438953472∧nl D≤137438953472:=hp;conv=>whnf
 have e1:IntKind.i64.wrap (((nl A:Nat):Int)+((nl D:Nat):Int))=((nl A+nl D:Nat):Int):=by rw [ax (by omega) (by omega)]; omega
 simp only [e1];refine ⟨⟨by omega,by omega,by show ((nl A+nl D:Nat):Int)*((4:Nat):Int)≤_; omega⟩,?_⟩
 simp only [toNat_cast,ue];conv=>whnf
 refine .inl ⟨fun mm tz hz=>∃ (i:Nat) (Y:Nat),bw (some (.slice (some ⟨0,0,none⟩) (nl A) ca)::some (.slice (some ⟨1,0,none⟩) (nl D) cd)::aF 3 (some (.slice (some ⟨2,0,none⟩) (nl A+nl D) (nl A+nl D))::aF 11 (some (.slice (some ⟨0,0,none⟩) (nl A) ca)::some (.int .i64 (nl A))::some (.int .i64 i)::aF 47 []))) tz∧hz=[some (.flat false (nl A) 1 (bn A)),some (.flat false (nl D) 1 (bn D)),some (.flat true (nl A+nl D) 1 (bn Y))]∧nl A - i=mm∧(i≤nl A∧Y=A % B ^ i*D),.inl ⟨_,0,0,(.aa (.aa (.sk 3 (.aa (.sk 11 (.aa (.aa (.aa (.sk 47 .nil rfl)))) rfl)) rfl))),rfl,rfl,?_⟩,?_⟩
 ·exact ⟨Nat.zero_le _,by simp [Nat.mod_one]⟩
 rintro mm aV _ ⟨i,Y,aA,rfl,rfl,⟨hi,hY⟩⟩
 obtain ⟨az,rfl⟩:∃ az:Nat→Value,aV=.slice (some ⟨0,0,none⟩) (nl A) ca::.slice (some ⟨1,0,none⟩) (nl D) cd::zs az 2 3 (.slice (some ⟨2,0,none⟩) (nl A+nl D) (nl A+nl D)::zs az 6 11 (.slice (some ⟨0,0,none⟩) (nl A) ca::.int .i64 (nl A)::.int .i64 i::zs az 20 47 [])):=bI aA;clear aA;conv=>whnf
 refine aM (fun h1=>?_) (fun h1=>?_)
 ·have h1:i < nl A:=by simpa using h1
  have afp:Y < B ^ (i+nl D):=by
   rw [hY,Nat.pow_add];exact Nat.mul_lt_mul_of_lt_of_le (Nat.mod_lt _ (eF i)) (Nat.le_of_lt (bV D)) (eF _)
  conv=>whnf
  refine ⟨⟨by omega,by omega⟩,?_⟩
  try simp (disch:=omega) only [ax,bK,dk,dJ,cf,dY,dz,ef,dc,dq,dy,dH,dA,dP,toNat_cast,aw,Nat.zero_add,dX,toNat_0,toNat_1,Nat.sub_zero,eh,eD,eG,eH,dR,eg,dZ,eE]
  conv=>whnf
  refine ⟨by show i < nl A; omega,?_⟩
  conv=>whnf
  refine .inl ⟨fun mm tz hz=>∃ (k:Nat) (Z:Nat) (c:Nat),bw (some (.slice (some ⟨0,0,none⟩) (nl A) ca)::some (.slice (some ⟨1,0,none⟩) (nl D) cd)::aF 3 (some (.slice (some ⟨2,0,none⟩) (nl A+nl D) (nl A+nl D))::some (.int .i64 i)::some (.int .u32 (an A i))::some (.int .u64 c)::aF 8 (some (.slice (some ⟨0,0,none⟩) (nl A) ca)::some (.int .i64 (nl A))::some (.int .i64 i)::aF 4 (some (.slice (some ⟨1,0,none⟩) (nl D) cd)::some (.int .i64 (nl D))::some (.int .i64 k)::aF 40 [])))) tz∧hz=[some (.flat false (nl A) 1 (bn A)),some (.flat false (nl D) 1 (bn D)),some (.flat true (nl A+nl D) 1 (bn Z))]∧nl D - k=mm∧(k≤nl D∧c < B∧Z < B ^ (i+nl D)∧Z+c*B ^ (i+k)=Y+an A i*(D % B ^ k)*B ^ i),.inl ⟨_,0,Y,0,(.aa (.aa (.sk 3 (.aa (.aa (.aa (.aa (.sk 8 (.aa (.aa (.aa (.sk 4 (.aa (.aa (.aa (.sk 40 .nil rfl)))) rfl)))) rfl))))) rfl))),rfl,rfl,?_⟩,?_⟩
  ·exact ⟨Nat.zero_le _,by decide,afp,by simp [Nat.mod_one]⟩
  rintro mm aV _ ⟨k,Z,c,aA,rfl,rfl,⟨hk,hc,hZ,he⟩⟩
  obtain ⟨az,rfl⟩:∃ az:Nat→Value,aV=.slice (some ⟨0,0,none⟩) (nl A) ca::.slice (some ⟨1,0,none⟩) (nl D) cd::zs az 2 3 (.slice (some ⟨2,0,none⟩) (nl A+nl D) (nl A+nl D)::.int .i64 i::.int .u32 (an A i)::.int .u64 c::zs az 9 8 (.slice (some ⟨0,0,none⟩) (nl A) ca::.int .i64 (nl A)::.int .i64 i::zs az 20 4 (.slice (some ⟨1,0,none⟩) (nl D) cd::.int .i64 (nl D)::.int .i64 k::zs az 27 40 []))):=bI aA;clear aA;have tU:=cH A i;have EN:=cH D k;have RZ:=cH Z (i+k);conv=>whnf
  refine aM (fun J=>?_) (fun J=>?_)
  ·have J:k < nl D:=by simpa using J
   obtain ⟨t,ht⟩:∃ t,t=c+(an A i*an D k+an Z (i+k)):=⟨_,rfl⟩;have ar:=T7 he ht;have afq:=Lh hc tU EN RZ ht;conv=>whnf
   refine ⟨⟨by omega,by omega⟩,?_⟩
   try simp (disch:=omega) only [ax,bK,dk,dJ,cf,dY,dz,ef,dc,dq,dy,dH,dA,dP,toNat_cast,aw,Nat.zero_add,dX,toNat_0,toNat_1,Nat.sub_zero,eh,eD,eG,eH,dR,eg,dZ,eE]
   conv=>whnf
   refine ⟨by show k < nl D; omega,?_⟩
   conv=>whnf
   have e2:IntKind.i64.wrap (((i:Nat):Int)+((k:Nat):Int))=((i+k:Nat):Int):=by rw [ax (by omega) (by omega)]; omega
   have hv:=Vr hc tU EN RZ ht;have ib:=Nat.mod_lt t (show 0 < B by decide)
   simp only [e2,toNat_cast,aw,Nat.zero_add];refine ⟨⟨by omega,by omega⟩,?_⟩
   conv=>whnf
   refine ⟨by show i+k < nl A+nl D; omega,?_⟩
   conv=>whnf
   simp only [hv,e2,eM];refine ⟨⟨by omega,by omega⟩,?_⟩
   simp only [toNat_cast,aw,Nat.zero_add];conv=>whnf
   refine ⟨by show i+k < nl A+nl D; omega,?_⟩
   conv=>whnf
   simp only [cf,jP];rw [fF ib];have e3:IntKind.i64.wrap (((k:Nat):Int)+1)=((k+1:Nat):Int):=by rw [ax (by omega) (by omega)]; rfl
   simp only [e3];refine .inl ⟨_,?_,k+1,cE Z (i+k) (t % B),t / B,(.aa (.aa (.sk 3 (.aa (.aa (.aa (.aa (.sk 8 (.aa (.aa (.aa (.sk 4 (.aa (.aa (.aa (.sk 40 .nil rfl)))) rfl)))) rfl))))) rfl))),rfl,rfl,?_⟩
   ·omega
   ·exact ⟨by omega,afq.1,mo hZ (by omega) ib,ar⟩
  ·have J:k=nl D:=by
    have J:¬ k < nl D:=by simpa using J
    omega
   subst J;have a8:=Vq hY (bV D) hZ he;have e2:IntKind.i64.wrap (((i:Nat):Int)+((nl D:Nat):Int))=((i+nl D:Nat):Int):=by rw [ax (by omega) (by omega)]; omega
   conv=>whnf
   simp only [e2,eM,Nat.mod_eq_of_lt hc];refine ⟨⟨by omega,by omega⟩,?_⟩
   simp only [toNat_cast,aw,Nat.zero_add];conv=>whnf
   refine ⟨by show i+nl D < nl A+nl D; omega,?_⟩
   conv=>whnf
   rw [fF hc]
   try simp (disch:=omega) only [ax,bK,dk,dJ,cf,dY,dz,ef,dc,dq,dy,dH,dA,dP,toNat_cast,aw,Nat.zero_add,dX,toNat_0,toNat_1,Nat.sub_zero,eh,eD,eG,eH,dR,eg,dZ,eE]
   skip
   refine .inl ⟨_,?_,i+1,cE Z (i+nl D) c,(.aa (.aa (.sk 3 (.aa (.sk 11 (.aa (.aa (.aa (.sk 47 .nil rfl)))) rfl)) rfl))),rfl,rfl,?_⟩
   ·omega
   ·exact ⟨by omega,a8⟩
 ·have h1:i=nl A:=by
   have h1:¬ i < nl A:=by simpa using h1
   omega
  subst h1;rw [Nat.mod_eq_of_lt (bV A)] at hY;have al:Y < B ^ (nl A+nl D):=by
   rw [hY,Nat.pow_add];exact Nat.mul_lt_mul_of_lt_of_le (bV A) (Nat.le_of_lt (bV D)) (eF _)
  conv=>whnf
  refine ⟨some (nl A+nl D,Y,nl A+nl D),[2],rfl,⟨al,by omega⟩,?_⟩
  conv=>whnf
  refine ⟨aH.aT (fun h=>by cases h) (fun r hr=>rfl),?_⟩
  conv=>whnf
  refine ⟨_,rfl,?_⟩;conv=>whnf
  refine ⟨2,?_⟩;conv=>whnf
  have hle:=jO al;subst hY;refine ⟨⟨rfl,⟨(fun h=>by cases h),rfl,hle,fun _ _=>rfl,fun r hr v hv=>dI (l:=bn (A*D) r) rfl v hv⟩⟩,_,rfl,?_⟩
  exact .cap _ _ _ rfl
open Go Go.Ae
theorem aad:di Tryz.prog 142 Dx:=by
 refine dQ I7 aN Tryz.func142 (enters_of Tryz.func142 (by kernel_rfl) rfl) ?_ ?_ ?_
 ·intro i b hb; simp [Dx,km] at hb; rcases hb with rfl | rfl <;> rfl
 ·intro i b hb; simp [Dx] at hb; rw [← hb]; rfl
 intro ⟨A,ca,D,cd⟩ hp;have hp:nl A≤137438953472∧nl D≤137438953472:=hp;conv=>whnf
 refine aM (fun h0=>?_) (fun h0=>?_)
 ·have h0:(nl A < nl D):=by simpa using h0
  have rE:nl A≤nl D:=by omega
  have eS:A+D=(D+A):=by omega
  conv=>whnf
  have e1:IntKind.i64.wrap (((nl D:Nat):Int)+1)=((nl D+1:Nat):Int):=by rw [ax (by omega) (by omega)]; rfl
  simp only [e1];have fO:decide (nl D+1=aI)=false:=decide_eq_false (by unfold aI; omega)
  refine ⟨⟨by omega,by omega,by show ((nl D+1:Nat):Int)*((4:Nat):Int)≤_; omega⟩,?_⟩
  simp only [toNat_cast,toNat_0];conv=>whnf
  refine .inl ⟨fun mm tz hz=>∃ (i:Nat) (Z:Nat) (c:Nat) (g:Nat→List Value),bw (some (.slice (some ⟨1,0,none⟩) (nl D) cd)::some (.slice (some ⟨0,0,none⟩) (nl A) ca)::aF 3 (some (.slice (some ⟨2,0,none⟩) i (nl D+1))::some (.int .u64 c)::aF 13 (some (.slice (some ⟨1,0,none⟩) (nl D) cd)::some (.int .i64 (nl D))::some (.int .i64 i)::aF 33 []))) tz∧hz=[some (.flat false (nl A) 1 (bn A)),some (.flat false (nl D) 1 (bn D)),some (.flat true i 1 g)]∧nl D - i=mm∧(i≤nl D∧c≤1∧Z < B ^ i∧Z+c*B ^ i=D % B ^ i+A % B ^ i∧∀ r,r < i→g r=bn Z r),.inl ⟨_,0,0,0,_,(.aa (.aa (.sk 3 (.aa (.aa (.sk 13 (.aa (.aa (.aa (.sk 33 .nil rfl)))) rfl))) rfl))),rfl,rfl,?_⟩,?_⟩
  ·exact ⟨Nat.zero_le _,by decide,by simp,by simp [Nat.mod_one],fun r hr=>absurd hr (by omega)⟩
  rintro mm aV _ ⟨i,Z,c,g,aA,rfl,rfl,⟨hi,hc,hZ,he,hg⟩⟩
  obtain ⟨az,rfl⟩:∃ az:Nat→Value,aV=.slice (some ⟨1,0,none⟩) (nl D) cd::.slice (some ⟨0,0,none⟩) (nl A) ca::zs az 2 3 (.slice (some ⟨2,0,none⟩) i (nl D+1)::.int .u64 c::zs az 7 13 (.slice (some ⟨1,0,none⟩) (nl D) cd::.int .i64 (nl D)::.int .i64 i::zs az 23 33 [])):=bI aA;clear aA;conv=>whnf
  refine aM (fun h1=>?_) (fun h1=>?_)
  ·have h1:i < nl D:=by simpa using h1
   conv=>whnf
   refine ⟨⟨by omega,by omega⟩,?_⟩
   try simp (disch:=omega) only [ax,bK,dk,dJ,cf,dY,dz,ef,dc,dq,dy,dH,dA,dP,toNat_cast,aw,Nat.zero_add,dX,toNat_0,toNat_1,Nat.sub_zero,eh,eD,eG,eH,dR,eg,dZ,eE]
   conv=>whnf
   refine ⟨by show i < nl D; omega,?_⟩
   conv=>whnf
   have hlX:an D i < 4294967296:=cH D i;have hlY:an A i < 4294967296:=cH A i;obtain ⟨t,ht⟩:∃ t,t=c+an D i+an A i:=⟨_,rfl⟩;have ar:=MJ he ht;have ib:t % B < B:=Nat.mod_lt t (show 0 < B by decide)
   have fJ:t / B≤1:=by
    have e:B=4294967296:=rfl;rw [e]; omega
   have J7:=Cn (a:=c) (b:=an D i) (by omega) (by omega)
   have A9:=Cn (a:=c+an D i) (b:=an A i) (by omega) (by omega)
   rw [← ht] at A9;have e3:IntKind.i64.wrap (((i:Nat):Int)+1)=((i+1:Nat):Int):=by rw [ax (by omega) (by omega)]; rfl
   have a8:=CJ hZ ib hg;simp only [J7];refine aM (fun J=>?_) (fun J=>?_)
   ·have J:i < nl A:=by simpa using J
    conv=>whnf
    refine ⟨⟨by omega,by omega⟩,?_⟩
    try simp (disch:=omega) only [ax,bK,dk,dJ,cf,dY,dz,ef,dc,dq,dy,dH,dA,dP,toNat_cast,aw,Nat.zero_add,dX,toNat_0,toNat_1,Nat.sub_zero,eh,eD,eG,eH,dR,eg,dZ,eE]
    conv=>whnf
    refine ⟨by show i < nl A; omega,?_⟩
    conv=>whnf
    simp only [A9,eM];rw [fO];conv=>whnf
    refine mZ ?_ ?_
    ·rw [Nat.ble_eq]; show i+1≤nl D+1; omega
    refine ⟨by show 0+i=i; omega,?_⟩
    conv=>whnf
    simp only [cf,jP,e3];refine .inr ⟨[0,1,2],[0,1,5,6,20,21,22],?_⟩;conv=>whnf
    intro _;conv=>whnf
    refine ⟨_,?_,i+1,Z+t % B*B ^ i,t / B,_,(.aa (.aa (.sk 3 (.aa (.aa (.sk 13 (.aa (.aa (.aa (.sk 33 .nil rfl)))) rfl))) rfl))),rfl,rfl,?_⟩
    ·omega
    ·exact ⟨by omega,fJ,wN hZ ib,ar,a8⟩
   ·have J:nl A≤i:=by
     have J:¬ i < nl A:=by simpa using J
     omega
    have h0:=uz (bV A) J;have e4:c+an D i=t:=by omega
    conv=>whnf
    simp only [e4,eM];rw [fO];conv=>whnf
    refine mZ ?_ ?_
    ·rw [Nat.ble_eq]; show i+1≤nl D+1; omega
    refine ⟨by show 0+i=i; omega,?_⟩
    conv=>whnf
    simp only [cf,jP,e3];refine .inr ⟨[0,1,2],[0,1,5,6,20,21,22],?_⟩;conv=>whnf
    intro _;conv=>whnf
    refine ⟨_,?_,i+1,Z+t % B*B ^ i,t / B,_,(.aa (.aa (.sk 3 (.aa (.aa (.sk 13 (.aa (.aa (.aa (.sk 33 .nil rfl)))) rfl))) rfl))),rfl,rfl,?_⟩
    ·omega
    ·exact ⟨by omega,fJ,wN hZ ib,ar,a8⟩
  ·have h1:i=nl D:=by
    have h1:¬ i < nl D:=by simpa using h1
    omega
   subst h1;rw [Nat.mod_eq_of_lt (bV D),Nat.mod_eq_of_lt (Nat.lt_of_lt_of_le (bV A) (Nat.pow_le_pow_right (by decide) rE))] at he
   have wb:c < B:=by have e:B=4294967296:=rfl; omega
   have a8:=CJ hZ wb hg;have al:=wN hZ wb;rw [he] at al a8;conv=>whnf
   simp only [eM,Nat.mod_eq_of_lt wb];rw [fO];conv=>whnf
   refine mZ ?_ ?_
   ·rw [Nat.ble_eq]; show nl D+1≤nl D+1; omega
   refine ⟨by show 0+nl D=nl D; omega,?_⟩
   conv=>whnf
   refine ⟨some (nl D+1,D+A,nl D+1),[2],rfl,⟨al,by omega⟩,?_⟩
   conv=>whnf
   refine ⟨⟨(fun h=>by cases h),rfl,Nat.le_refl _,fun r hr=>(a8 r hr).symm,fun r hr v hv=>dI (l:=bn (D+A) r) rfl v hv⟩,?_⟩
   conv=>whnf
   refine ⟨_,rfl,?_⟩;conv=>whnf
   refine ⟨2,?_⟩;conv=>whnf
   have hle:=jO al;show (_∧aH (dT (A+D)) _)∧∃ v',cR _ 3 (kW 2 (A+D))=some v'∧_
   rw [eS];refine ⟨⟨rfl,⟨(fun h=>by cases h),rfl,hle,fun r hr=>(a8 r (Nat.lt_of_lt_of_le hr hle)).symm,fun r hr v hv=>dI (l:=bn (D+A) r) rfl v hv⟩⟩,_,rfl,?_⟩
   exact .cap _ _ _ rfl
 ·have h0:(¬ nl A < nl D):=by simpa using h0
  have rE:nl D≤nl A:=by omega
  have eS:A+D=(A+D):=by omega
  conv=>whnf
  have e1:IntKind.i64.wrap (((nl A:Nat):Int)+1)=((nl A+1:Nat):Int):=by rw [ax (by omega) (by omega)]; rfl
  simp only [e1];have fO:decide (nl A+1=aI)=false:=decide_eq_false (by unfold aI; omega)
  refine ⟨⟨by omega,by omega,by show ((nl A+1:Nat):Int)*((4:Nat):Int)≤_; omega⟩,?_⟩
  simp only [toNat_cast,toNat_0];conv=>whnf
  refine .inl ⟨fun mm tz hz=>∃ (i:Nat) (Z:Nat) (c:Nat) (g:Nat→List Value),bw (some (.slice (some ⟨0,0,none⟩) (nl A) ca)::some (.slice (some ⟨1,0,none⟩) (nl D) cd)::aF 3 (some (.slice (some ⟨2,0,none⟩) i (nl A+1))::some (.int .u64 c)::aF 13 (some (.slice (some ⟨0,0,none⟩) (nl A) ca)::some (.int .i64 (nl A))::some (.int .i64 i)::aF 33 []))) tz∧hz=[some (.flat false (nl A) 1 (bn A)),some (.flat false (nl D) 1 (bn D)),some (.flat true i 1 g)]∧nl A - i=mm∧(i≤nl A∧c≤1∧Z < B ^ i∧Z+c*B ^ i=A % B ^ i+D % B ^ i∧∀ r,r < i→g r=bn Z r),.inl ⟨_,0,0,0,_,(.aa (.aa (.sk 3 (.aa (.aa (.sk 13 (.aa (.aa (.aa (.sk 33 .nil rfl)))) rfl))) rfl))),rfl,rfl,?_⟩,?_⟩
  ·exact ⟨Nat.zero_le _,by decide,by simp,by simp [Nat.mod_one],fun r hr=>absurd hr (by omega)⟩
  rintro mm aV _ ⟨i,Z,c,g,aA,rfl,rfl,⟨hi,hc,hZ,he,hg⟩⟩
  obtain ⟨az,rfl⟩:∃ az:Nat→Value,aV=.slice (some ⟨0,0,none⟩) (nl A) ca::.slice (some ⟨1,0,none⟩) (nl D) cd::zs az 2 3 (.slice (some ⟨2,0,none⟩) i (nl A+1)::.int .u64 c::zs az 7 13 (.slice (some ⟨0,0,none⟩) (nl A) ca::.int .i64 (nl A)::.int .i64 i::zs az 23 33 [])):=bI aA;clear aA;conv=>whnf
  refine aM (fun h1=>?_) (fun h1=>?_)
  ·have h1:i < nl A:=by simpa using h1
   conv=>whnf
   refine ⟨⟨by omega,by omega⟩,?_⟩
   try simp (disch:=omega) only [ax,bK,dk,dJ,cf,dY,dz,ef,dc,dq,dy,dH,dA,dP,toNat_cast,aw,Nat.zero_add,dX,toNat_0,toNat_1,Nat.sub_zero,eh,eD,eG,eH,dR,eg,dZ,eE]
   conv=>whnf
   refine ⟨by show i < nl A; omega,?_⟩
   conv=>whnf
   have hlX:an A i < 4294967296:=cH A i;have hlY:an D i < 4294967296:=cH D i;obtain ⟨t,ht⟩:∃ t,t=c+an A i+an D i:=⟨_,rfl⟩;have ar:=MJ he ht;have ib:t % B < B:=Nat.mod_lt t (show 0 < B by decide)
   have fJ:t / B≤1:=by
    have e:B=4294967296:=rfl;rw [e]; omega
   have J7:=Cn (a:=c) (b:=an A i) (by omega) (by omega)
   have A9:=Cn (a:=c+an A i) (b:=an D i) (by omega) (by omega)
   rw [← ht] at A9;have e3:IntKind.i64.wrap (((i:Nat):Int)+1)=((i+1:Nat):Int):=by rw [ax (by omega) (by omega)]; rfl
   have a8:=CJ hZ ib hg;simp only [J7];refine aM (fun J=>?_) (fun J=>?_)
   ·have J:i < nl D:=by simpa using J
    conv=>whnf
    refine ⟨⟨by omega,by omega⟩,?_⟩
    try simp (disch:=omega) only [ax,bK,dk,dJ,cf,dY,dz,ef,dc,dq,dy,dH,dA,dP,toNat_cast,aw,Nat.zero_add,dX,toNat_0,toNat_1,Nat.sub_zero,eh,eD,eG,eH,dR,eg,dZ,eE]
    conv=>whnf
    refine ⟨by show i < nl D; omega,?_⟩
    conv=>whnf
    simp only [A9,eM];rw [fO];conv=>whnf
    refine mZ ?_ ?_
    ·rw [Nat.ble_eq]; show i+1≤nl A+1; omega
    refine ⟨by show 0+i=i; omega,?_⟩
    conv=>whnf
    simp only [cf,jP,e3];refine .inr ⟨[0,1,2],[0,1,5,6,20,21,22],?_⟩;conv=>whnf
    intro _;conv=>whnf
    refine ⟨_,?_,i+1,Z+t % B*B ^ i,t / B,_,(.aa (.aa (.sk 3 (.aa (.aa (.sk 13 (.aa (.aa (.aa (.sk 33 .nil rfl)))) rfl))) rfl))),rfl,rfl,?_⟩
    ·omega
    ·exact ⟨by omega,fJ,wN hZ ib,ar,a8⟩
   ·have J:nl D≤i:=by
     have J:¬ i < nl D:=by simpa using J
     omega
    have h0:=uz (bV D) J;have e4:c+an A i=t:=by omega
    conv=>whnf
    simp only [e4,eM];rw [fO];conv=>whnf
    refine mZ ?_ ?_
    ·rw [Nat.ble_eq]; show i+1≤nl A+1; omega
    refine ⟨by show 0+i=i; omega,?_⟩
    conv=>whnf
    simp only [cf,jP,e3];refine .inr ⟨[0,1,2],[0,1,5,6,20,21,22],?_⟩;conv=>whnf
    intro _;conv=>whnf
    refine ⟨_,?_,i+1,Z+t % B*B ^ i,t / B,_,(.aa (.aa (.sk 3 (.aa (.aa (.sk 13 (.aa (.aa (.aa (.sk 33 .nil rfl)))) rfl))) rfl))),rfl,rfl,?_⟩
    ·omega
    ·exact ⟨by omega,fJ,wN hZ ib,ar,a8⟩
  ·have h1:i=nl A:=by
    have h1:¬ i < nl A:=by simpa using h1
    omega
   subst h1;rw [Nat.mod_eq_of_lt (bV A),Nat.mod_eq_of_lt (Nat.lt_of_lt_of_le (bV D) (Nat.pow_le_pow_right (by decide) rE))] at he
   have wb:c < B:=by have e:B=4294967296:=rfl; omega
   have a8:=CJ hZ wb hg;have al:=wN hZ wb;rw [he] at al a8;conv=>whnf
   simp only [eM,Nat.mod_eq_of_lt wb];rw [fO];conv=>whnf
   refine mZ ?_ ?_
   ·rw [Nat.ble_eq]; show nl A+1≤nl A+1; omega
   refine ⟨by show 0+nl A=nl A; omega,?_⟩
   conv=>whnf
   refine ⟨some (nl A+1,A+D,nl A+1),[2],rfl,⟨al,by omega⟩,?_⟩
   conv=>whnf
   refine ⟨⟨(fun h=>by cases h),rfl,Nat.le_refl _,fun r hr=>(a8 r hr).symm,fun r hr v hv=>dI (l:=bn (A+D) r) rfl v hv⟩,?_⟩
   conv=>whnf
   refine ⟨_,rfl,?_⟩;conv=>whnf
   refine ⟨2,?_⟩;conv=>whnf
   have hle:=jO al;show (_∧aH (dT (A+D)) _)∧∃ v',cR _ 3 (kW 2 (A+D))=some v'∧_
   rw [eS];refine ⟨⟨rfl,⟨(fun h=>by cases h),rfl,hle,fun r hr=>(a8 r (Nat.lt_of_lt_of_le hr hle)).symm,fun r hr v hv=>dI (l:=bn (A+D) r) rfl v hv⟩⟩,_,rfl,?_⟩
   exact .cap _ _ _ rfl
open Go Go.Ae
def Ef:Env:=En [(161,.q sV),(195,.p C8)]
theorem I8:EnvOk Tryz.prog Ef:=bF ⟨CT,Xw,trivial⟩ trivial
theorem XB:di Tryz.prog 183 Db:=by
 refine dQ I8 aN Tryz.func183 (enters_of Tryz.func183 (by kernel_rfl) rfl) ?_ ?_ ?_
 ·intro i b hb; simp [Db,dT] at hb; rcases hb with rfl | rfl <;> rfl
 ·intro i b hb; simp [Db] at hb; rw [← hb]; rfl
 intro ⟨A,ca,d⟩ hp;have hp:nl A≤137438953472∧0 < d∧d < 4294967296:=hp;conv=>whnf
 refine ⟨⟨by omega,by omega,by show ((nl A:Nat):Int)*((4:Nat):Int)≤_; omega⟩,?_⟩
 simp only [toNat_cast,ue];conv=>whnf
 refine .inl ⟨fun mm tz hz=>∃ (i:Nat) (rem:Nat) (Y:Nat),bw (some (.slice (some ⟨0,0,none⟩) (nl A) ca)::some (.int .u32 d)::aF 4 (some (.slice (some ⟨1,0,none⟩) (nl A) (nl A))::some (.int .u32 rem)::some (.int .i64 (IntKind.i64.wrap ((i:Int) - 1)))::aF 26 [])) tz∧hz=[some (.flat false (nl A) 1 (bn A)),some (.flat true (nl A) 1 (bn Y))]∧i=mm∧(i≤nl A∧rem=A / B ^ i % d∧Y=A / B ^ i / d*B ^ i),.inl ⟨_,nl A,0,0,(.aa (.aa (.sk 4 (.aa (.aa (.aa (.sk 26 .nil rfl)))) rfl))),rfl,rfl,?_⟩,?_⟩
 ·have h:=Nat.div_eq_of_lt (bV A);exact ⟨Nat.le_refl _,by rw [h]; simp,by rw [h]; simp⟩
 rintro mm aV _ ⟨i,rem,Y,aA,rfl,rfl,⟨hi,hr,hY⟩⟩
 obtain ⟨az,rfl⟩:∃ az:Nat→Value,aV=.slice (some ⟨0,0,none⟩) (nl A) ca::.int .u32 d::zs az 2 4 (.slice (some ⟨1,0,none⟩) (nl A) (nl A)::.int .u32 rem::.int .i64 (IntKind.i64.wrap ((i:Int) - 1))::zs az 9 26 []):=bI aA;clear aA;conv=>whnf
 refine aM (fun h1=>?_) (fun h1=>?_)
 ·have h1:0 < i:=by
   rcases Nat.eq_zero_or_pos i with h | h
   ·subst h; revert h1; decide
   ·exact h
  obtain ⟨i,rfl⟩:∃ i',i=i'+1:=⟨i - 1,by omega⟩
  have ei:IntKind.i64.wrap (((i+1:Nat):Int) - 1)=((i:Nat):Int):=by rw [ax (by omega) (by omega)]; omega
  simp only [ei];have hl:=cH A i;have fC:rem < d:=by rw [hr]; exact Nat.mod_lt _ hp.2.1
  obtain ⟨t,ht⟩:∃ t,t=rem*B+an A i:=⟨_,rfl⟩;have jB:=ht;rw [hr] at jB;have ar:=LS hp.2.1 jB;have hse:=Vs hp.2.1 jB;have al:=WE hp.2.1 jB;conv=>whnf
  refine ⟨⟨by omega,by omega⟩,?_⟩
  try simp (disch:=omega) only [ax,bK,dk,dJ,cf,dY,dz,ef,dc,dq,dy,dH,dA,dP,toNat_cast,aw,Nat.zero_add,dX,toNat_0,toNat_1,Nat.sub_zero,eh,eD,eG,eH,dR,eg,dZ,eE]
  conv=>whnf
  refine ⟨by show i < nl A; omega,?_⟩
  conv=>whnf
  refine ⟨(rem,an A i,d),rfl,⟨fC,hl,hp.2.2⟩,?_⟩;have rI:rem*4294967296+an A i=t:=ht.symm;simp only [C8,rI];conv=>whnf
  refine ⟨⟨by omega,by omega⟩,?_⟩
  try simp (disch:=omega) only [ax,bK,dk,dJ,cf,dY,dz,ef,dc,dq,dy,dH,dA,dP,toNat_cast,aw,Nat.zero_add,dX,toNat_0,toNat_1,Nat.sub_zero,eh,eD,eG,eH,dR,eg,dZ,eE]
  conv=>whnf
  refine ⟨by show i < nl A; omega,?_⟩
  conv=>whnf
  rw [fF al];refine .inl ⟨_,?_,i,t % d,cE Y i (t / d),(.aa (.aa (.sk 4 (.aa (.aa (.aa (.sk 26 .nil rfl)))) rfl))),rfl,rfl,?_⟩
  ·omega
  ·exact ⟨by omega,ar.1.symm,by rw [hY]; exact hse⟩
 ·have h1:i=0:=by
   rcases Nat.eq_zero_or_pos i with h | h
   ·exact h
   ·have e:IntKind.i64.wrap ((i:Int) - 1)=((i - 1:Nat):Int):=by rw [ax (by omega) (by omega)]; omega
    rw [e] at h1;exact absurd h1 (by simp)
  subst h1;rw [Nat.pow_zero,Nat.div_one] at hr hY;rw [Nat.mul_one] at hY;subst hr hY;have al:A / d < B ^ nl A:=Nat.lt_of_le_of_lt (Nat.div_le_self _ _) (bV A);have hle:=jO al;conv=>whnf
  refine ⟨some (nl A,A / d,nl A),[1],rfl,⟨al,by omega⟩,?_⟩
  conv=>whnf
  refine ⟨aH.aT (fun h=>by cases h) (fun r hr=>rfl),?_⟩
  conv=>whnf
  refine ⟨_,rfl,?_⟩;conv=>whnf
  refine ⟨1,?_⟩;conv=>whnf
  refine ⟨⟨rfl,⟨(fun h=>⟨rfl,rfl⟩),rfl,Nat.le_refl _,fun _ _=>rfl,fun r hr v hv=>dI (l:=bn (A / d) r) rfl v hv⟩⟩,_,rfl,?_⟩
  exact .two (.cap _ _ _ rfl) (.refl _)
theorem XC:di Tryz.prog 185 Dc:=by
 refine dQ I8 aN Tryz.func185 (enters_of Tryz.func185 (by kernel_rfl) rfl) ?_ ?_ ?_
 ·intro i b hb; simp [Dc,dT] at hb; rcases hb with rfl | rfl <;> rfl
 ·intro i b hb; simp [Dc] at hb; rw [← hb]; rfl
 intro ⟨A,ca,s⟩ hp;have hp:nl A≤137438953472∧s≤31:=hp;conv=>whnf
 have e1:IntKind.i64.wrap (((nl A:Nat):Int)+1)=((nl A+1:Nat):Int):=by rw [ax (by omega) (by omega)]; rfl
 simp only [e1];refine ⟨⟨by omega,by omega,by show ((nl A+1:Nat):Int)*((4:Nat):Int)≤_; omega⟩,?_⟩
 simp only [toNat_cast,ue];conv=>whnf
 refine .inl ⟨fun mm tz hz=>∃ (i:Nat) (Y:Nat),bw (some (.slice (some ⟨0,0,none⟩) (nl A) ca)::some (.int .i64 s)::aF 3 (some (.slice (some ⟨1,0,none⟩) (nl A+1) (nl A+1))::aF 7 (some (.slice (some ⟨0,0,none⟩) (nl A) ca)::some (.int .i64 (nl A))::some (.int .i64 i)::aF 25 []))) tz∧hz=[some (.flat false (nl A) 1 (bn A)),some (.flat true (nl A+1) 1 (bn Y))]∧nl A - i=mm∧(i≤nl A∧Y=A % B ^ i*2 ^ s),.inl ⟨_,0,0,(.aa (.aa (.sk 3 (.aa (.sk 7 (.aa (.aa (.aa (.sk 25 .nil rfl)))) rfl)) rfl))),rfl,rfl,?_⟩,?_⟩
 ·exact ⟨Nat.zero_le _,by simp [Nat.mod_one]⟩
 rintro mm aV _ ⟨i,Y,aA,rfl,rfl,⟨hi,hY⟩⟩
 obtain ⟨az,rfl⟩:∃ az:Nat→Value,aV=.slice (some ⟨0,0,none⟩) (nl A) ca::.int .i64 s::zs az 2 3 (.slice (some ⟨1,0,none⟩) (nl A+1) (nl A+1)::zs az 6 7 (.slice (some ⟨0,0,none⟩) (nl A) ca::.int .i64 (nl A)::.int .i64 i::zs az 16 25 [])):=bI aA;clear aA;conv=>whnf
 refine aM (fun h1=>?_) (fun h1=>?_)
 ·have h1:i < nl A:=by simpa using h1
  have hl:=cH A i;have hu:an Y i < 2 ^ s:=by rw [hY]; exact LU
  have JW:=aaQ (l:=an A i) hp.2 hu;have afr:=P4 (l:=an A i) hp.2 hu;have ar:=T8 (A:=A) (i:=i) hp.2;rw [← hY] at ar;have J:=xd hp.2;have R0:an A i*2 ^ s / B < B:=by
   refine (Nat.div_lt_iff_lt_mul (by decide)).2 ?_
   exact Nat.mul_lt_mul_of_lt_of_le hl (by show _≤4294967296; omega) (by decide)
  conv=>whnf
  refine ⟨⟨by omega,by omega⟩,?_⟩
  try simp (disch:=omega) only [ax,bK,dk,dJ,cf,dY,dz,ef,dc,dq,dy,dH,dA,dP,toNat_cast,aw,Nat.zero_add,dX,toNat_0,toNat_1,Nat.sub_zero,eh,eD,eG,eH,dR,eg,dZ,eE]
  conv=>whnf
  refine ⟨by show i < nl A; omega,?_⟩
  conv=>whnf
  have ku:IntKind.u64.wrap ((an A i:Nat):Int)=((an A i:Nat):Int):=bK (by omega) (by have:B=4294967296:=rfl; omega)
  have hv:=X9 hp.2 hl;have R1:an A i*2 ^ s / B % B=an A i*2 ^ s / B:=Nat.mod_eq_of_lt R0;have e3:IntKind.i64.wrap (((i:Nat):Int)+1)=((i+1:Nat):Int):=by rw [ax (by omega) (by omega)]; rfl
  simp only [toNat_cast,ku,hv];refine ⟨⟨by omega,by omega⟩,?_⟩
  simp only [toNat_cast,aw,Nat.zero_add];conv=>whnf
  refine ⟨by show i < nl A+1; omega,?_⟩
  conv=>whnf
  simp only [eM,JW,e3,cf,jP,R1];refine ⟨⟨by omega,by omega⟩,?_⟩
  simp only [toNat_cast,aw,Nat.zero_add];conv=>whnf
  refine ⟨by show i < nl A+1; omega,?_⟩
  conv=>whnf
  rw [fF afr];simp only [e3,cf,jP,eM,R1];refine ⟨⟨by omega,by omega⟩,?_⟩
  simp only [toNat_cast,aw,Nat.zero_add];conv=>whnf
  refine ⟨by show i+1 < nl A+1; omega,?_⟩
  conv=>whnf
  rw [fF R0,ar];simp only [e3];refine .inl ⟨_,?_,i+1,A % B ^ (i+1)*2 ^ s,(.aa (.aa (.sk 3 (.aa (.sk 7 (.aa (.aa (.aa (.sk 25 .nil rfl)))) rfl)) rfl))),rfl,rfl,?_⟩
  ·omega
  ·exact ⟨by omega,rfl⟩
 ·have h1:i=nl A:=by
   have h1:¬ i < nl A:=by simpa using h1
   omega
  subst h1;rw [Nat.mod_eq_of_lt (bV A)] at hY;subst hY;conv=>whnf
  refine ⟨1,?_⟩;conv=>whnf
  refine ⟨⟨rfl,⟨(fun h=>⟨rfl,rfl⟩),rfl,Nat.le_refl _,fun _ _=>rfl,fun r hr v hv=>dI (l:=bn (A*2 ^ s) r) rfl v hv⟩⟩,_,rfl,?_⟩
  exact .refl _
theorem US:di Tryz.prog 187 Cp:=by
 refine dQ I8 aN Tryz.func187 (enters_of Tryz.func187 (by kernel_rfl) rfl) ?_ ?_ ?_
 ·intro i b hb; simp [Cp,dT] at hb; rcases hb with rfl | rfl <;> rfl
 ·intro i b hb; simp [Cp] at hb; rw [← hb]; rfl
 intro ⟨A,ca,s⟩ hp;have hp:nl A≤137438953472∧s≤31:=hp;conv=>whnf
 refine ⟨⟨by omega,by omega,by show ((nl A:Nat):Int)*((4:Nat):Int)≤_; omega⟩,?_⟩
 simp only [toNat_cast,ue];conv=>whnf
 refine .inl ⟨fun mm tz hz=>∃ (i:Nat) (Y:Nat),bw (some (.slice (some ⟨0,0,none⟩) (nl A) ca)::some (.int .i64 s)::aF 3 (some (.slice (some ⟨1,0,none⟩) (nl A) (nl A))::aF 6 (some (.int .i64 (nl A))::some (.int .i64 i)::aF 31 []))) tz∧hz=[some (.flat false (nl A) 1 (bn A)),some (.flat true (nl A) 1 (bn Y))]∧nl A - i=mm∧(i≤nl A∧Y=A / 2 ^ s % B ^ i),.inl ⟨_,0,0,(.aa (.aa (.sk 3 (.aa (.sk 6 (.aa (.aa (.sk 31 .nil rfl))) rfl)) rfl))),rfl,rfl,?_⟩,?_⟩
 ·exact ⟨Nat.zero_le _,by simp [Nat.mod_one]⟩
 rintro mm aV _ ⟨i,Y,aA,rfl,rfl,⟨hi,hY⟩⟩
 obtain ⟨az,rfl⟩:∃ az:Nat→Value,aV=.slice (some ⟨0,0,none⟩) (nl A) ca::.int .i64 s::zs az 2 3 (.slice (some ⟨1,0,none⟩) (nl A) (nl A)::zs az 6 6 (.int .i64 (nl A)::.int .i64 i::zs az 14 31 [])):=bI aA;clear aA;conv=>whnf
 refine aM (fun h1=>?_) (fun h1=>?_)
 ·have h1:i < nl A:=by simpa using h1
  have hl:=cH A i;have jc:an A (i+1) < B:=cH A (i+1);have e3:IntKind.i64.wrap (((i:Nat):Int)+1)=((i+1:Nat):Int):=by rw [ax (by omega) (by omega)]; rfl
  have ku:IntKind.u64.wrap ((an A i:Nat):Int)=((an A i:Nat):Int):=bK (by omega) (by have:B=4294967296:=rfl; omega)
  have afs:IntKind.u64.wrap ((an A (i+1):Nat):Int)=((an A (i+1):Nat):Int):=bK (by omega) (by have:B=4294967296:=rfl; omega)
  have hd:=SW (A:=A) (i:=i) hp.2;have EO:cE Y i (an (A / 2 ^ s) i)=A / 2 ^ s % B ^ (i+1):=by
   rw [mod_succ,← hY];exact BF (by rw [hY]; exact Nat.mod_lt _ (eF i))
  conv=>whnf
  refine ⟨⟨by omega,by omega⟩,?_⟩
  try simp (disch:=omega) only [ax,bK,dk,dJ,cf,dY,dz,ef,dc,dq,dy,dH,dA,dP,toNat_cast,aw,Nat.zero_add,dX,toNat_0,toNat_1,Nat.sub_zero,eh,eD,eG,eH,dR,eg,dZ,eE]
  conv=>whnf
  refine ⟨by show i < nl A; omega,?_⟩
  conv=>whnf
  simp only [e3,ku];refine aM (fun J=>?_) (fun J=>?_)
  ·have J:i+1 < nl A:=by
    have J:=of_decide_eq_true J;omega
   conv=>whnf
   simp only [e3];refine ⟨⟨by omega,by omega⟩,?_⟩
   simp only [toNat_cast,aw,Nat.zero_add];conv=>whnf
   refine ⟨by show i+1 < nl A; omega,?_⟩
   conv=>whnf
   have rn:IntKind.u64.wrap (((an A (i+1):Nat):Int)*4294967296)=((an A (i+1):Nat):Int)*4294967296:=bK (by omega) (by have:B=4294967296:=rfl; omega)
   simp only [afs,dz,rn,WH jc hl];simp only [Oq hp.2,toNat_cast,eM];refine ⟨⟨by omega,by omega⟩,?_⟩
   simp only [toNat_cast,aw,Nat.zero_add];conv=>whnf
   refine ⟨by show i < nl A; omega,?_⟩
   conv=>whnf
   simp only [e3,← hd];rw [fF (cH (A / 2 ^ s) i),EO];refine .inl ⟨_,?_,i+1,A / 2 ^ s % B ^ (i+1),(.aa (.aa (.sk 3 (.aa (.sk 6 (.aa (.aa (.sk 31 .nil rfl))) rfl)) rfl))),rfl,rfl,?_⟩
   ·omega
   ·exact ⟨by omega,rfl⟩
  ·have J:nl A≤i+1:=by
    have J:=of_decide_eq_false J;omega
   have h0:=uz (bV A) J;rw [h0,Nat.zero_mul,Nat.add_zero] at hd;conv=>whnf
   simp only [Oq hp.2,toNat_cast,eM];refine ⟨⟨by omega,by omega⟩,?_⟩
   simp only [toNat_cast,aw,Nat.zero_add];conv=>whnf
   refine ⟨by show i < nl A; omega,?_⟩
   conv=>whnf
   simp only [e3,← hd];rw [fF (cH (A / 2 ^ s) i),EO];refine .inl ⟨_,?_,i+1,A / 2 ^ s % B ^ (i+1),(.aa (.aa (.sk 3 (.aa (.sk 6 (.aa (.aa (.sk 31 .nil rfl))) rfl)) rfl))),rfl,rfl,?_⟩
   ·omega
   ·exact ⟨by omega,rfl⟩
 ·have h1:i=nl A:=by
   have h1:¬ i < nl A:=by simpa using h1
   omega
  subst h1;have al:A / 2 ^ s < B ^ nl A:=Nat.lt_of_le_of_lt (Nat.div_le_self _ _) (bV A);have hle:=jO al;rw [Nat.mod_eq_of_lt al] at hY;subst hY;conv=>whnf
  refine ⟨some (nl A,A / 2 ^ s,nl A),[1],rfl,⟨al,by omega⟩,?_⟩
  conv=>whnf
  refine ⟨aH.aT (fun h=>by cases h) (fun r hr=>rfl),?_⟩
  conv=>whnf
  refine ⟨_,rfl,?_⟩;conv=>whnf
  refine ⟨1,?_⟩;conv=>whnf
  refine ⟨⟨rfl,⟨(fun h=>⟨rfl,rfl⟩),rfl,Nat.le_refl _,fun _ _=>rfl,fun r hr v hv=>dI (l:=bn (A / 2 ^ s) r) rfl v hv⟩⟩,_,rfl,?_⟩
  exact .cap _ _ _ rfl
end Go.Proofs.YtlapbjdhekcipaaGreat
